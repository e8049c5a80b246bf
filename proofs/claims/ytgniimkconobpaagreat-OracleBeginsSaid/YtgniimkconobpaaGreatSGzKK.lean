/-
  Part 11 of the proof: what the machine does and what the functions answer.
  Conditions: those that each lemma names.
-/
import Derived.ProofKit
import Derived.SizedLaws
import Derived.Test.YtgniimkconobpaaGreatSGzKJ
set_option linter.unusedSimpArgs false
set_option linter.unusedVariables false
set_option linter.unusedSimpArgs false
set_option maxRecDepth 100000
namespace Gv
open Go Go.Proofs
def jc:SC :=
  .seq (.seq (al [aa 42 9,aa 43 8,aL 44 43,bb 45 .lss 42 44]) <|
  .cond (.tmp 45) (.skip) (.exit 0)) <|
  .seq (.block 1 (al [aa 48 8,aa 49 9,aN 50 1 48 49,(none,.op (.store 1 (.tmp 50) (.val (.val (.int .i64 (-1))))))])) <|
  al [aa 46 9,ay 47 .add 46 1,aa 9 47]
def iZ:SC :=
  .seq (.seq (al [aa 51 11,ar 52 2 1,an 53 52,aL 54 53,bb 55 .lss 51 54]) <|
  .cond (.tmp 55) (.skip) (.exit 2)) <|
  .seq (.block 3 (.seq (al [ar 58 2 1,an 59 58,aa 60 11,aN 61 3 59 60,aM 62 3 61,((some 12),.op (.alloc [(.val (.int .i64 0)),(.emp 1),(.val (.int .i64 0))])),(none,.op (.store 3 (.tmp 12) (.tmp 62)))]) <|
  .seq (.seq (.region false [⟨none,[aa 63 6,ar 64 0 12,an 65 64,aN 66 1 63 65,an 67 66,bL 68 67,aa 69 68]⟩,⟨(some (69,false)),[ar 70 1 12,an 71 70,aa 72 5,cG 73 79 [(.tmp 71),(.tmp 72),(.val (.val (.bool true)))],bL 74 73]⟩,⟨none,[bt 75 69 74]⟩]) <|
  .cond (.tmp 75) (.exit 3) (.skip)) <|
  .seq (al [aa 76 10,aa 77 11,((some 78),.op (.bH 1 1 [(.val (.int .i64 0))] [(0,(.tmp 77))])),((some 79),.op (.app 1 8 (.tmp 76) (.tmp 78))),aa 10 79]) <|
  .seq (al [aa 80 8,ar 81 0 12,an 82 81,aN 83 1 80 82,an 84 83,ay 85 .lss 84 0]) <|
  .cond (.tmp 85) (.seq (al [aa 86 8,ar 87 0 12,an 88 87,ar 89 1 7,an 90 89,aL 91 90,aN 92 1 86 88,(none,.op (.store 1 (.tmp 92) (.tmp 91)))]) <|
  .region false [⟨none,[ar 93 1 7,an 94 93,ar 95 1 1,an 96 95,ar 97 0 12,an 98 97,aN 99 1 96 98,an 100 99,((some 101),.op (.bH 1 1 [(.val (.string ⟨#[]⟩))] [(0,(.tmp 100))])),((some 102),.op (.app 1 16 (.tmp 94) (.tmp 101))),ar 103 1 7,(none,.op (.store 1 (.tmp 103) (.tmp 102)))]⟩]) (.skip))) <|
  al [aa 56 11,ay 57 .add 56 1,aa 11 57]
def jl:SC :=
  .seq (.seq (al [aa 126 16,ar 127 1 14,an 128 127,aL 129 128,bb 130 .lss 126 129]) <|
  .cond (.tmp 130) (.skip) (.exit 6)) <|
  .seq (.block 7 (.seq (al [ar 133 1 14,an 134 133,aa 135 16,aN 136 1 134 135,an 137 136,aa 17 137]) <|
  .seq (.seq (al [aa 138 17,ay 139 .lss 138 0]) <|
  .cond (.tmp 139) (al [aa 140 8,aa 141 17,((some 142),.op (.arith .sub (.val (.val (.int .i64 (-1)))) (.tmp 141))),aN 143 1 140 142,an 144 143,((some 145),.op (.arith .sub (.val (.val (.int .i64 (-1)))) (.tmp 144))),aa 17 145]) (.skip)) <|
  al [ar 146 1 15,an 147 146,aa 148 17,((some 149),.op (.bH 1 1 [(.val (.int .i64 0))] [(0,(.tmp 148))])),((some 150),.op (.app 1 8 (.tmp 147) (.tmp 149))),ar 151 1 15,(none,.op (.store 1 (.tmp 151) (.tmp 150)))])) <|
  al [aa 131 16,ay 132 .add 131 1,aa 16 132]
def js:SC :=
  .seq (.seq (al [aa 104 13,aa 105 10,aL 106 105,bb 107 .lss 104 106]) <|
  .cond (.tmp 107) (.skip) (.exit 4)) <|
  .seq (.block 5 (.seq (al [ar 110 2 1,an 111 110,aa 112 10,aa 113 13,aN 114 1 112 113,an 115 114,aN 116 3 111 115,aM 117 3 116,((some 14),.op (.alloc [(.val (.int .i64 0)),(.emp 1),(.val (.int .i64 0))])),(none,.op (.store 3 (.tmp 14) (.tmp 117)))]) <|
  .seq (al [aa 118 8,ar 119 0 14,an 120 119,aN 121 1 118 120,an 122 121,ar 123 2 14,an 124 123,((some 125),.op (.build [(.val (.int .i64 0)),(.emp 1),(.val (.int .i64 0))] [(0,1,(.tmp 122)),(2,1,(.tmp 124))])),((some 15),.op (.alloc [(.val (.int .i64 0)),(.emp 1),(.val (.int .i64 0))])),(none,.op (.store 3 (.tmp 15) (.tmp 125)))]) <|
  .seq (.seq (al [aH 16 0]) <|
  .block 6 (.loop jl)) <|
  al [ar 152 2 7,an 153 152,aM 154 3 15,((some 155),.op (.bH 1 3 [(.val (.int .i64 0)),(.emp 1),(.val (.int .i64 0))] [(0,(.tmp 154))])),((some 156),.op (.app 3 40 (.tmp 153) (.tmp 155))),ar 157 2 7,(none,.op (.store 1 (.tmp 157) (.tmp 156)))])) <|
  al [aa 108 13,ay 109 .add 108 1,aa 13 109]
def kn:SF:=⟨.seq (al [cE 1 0,((some 2),.op (.alloc [(.emp 1),(.emp 1),(.emp 1),(.val (.int .i64 0))])),((some 3),.op (.bu (.val (.emp 1)))),aH 4 0]) <|
  .seq (.seq (al [aM 18 4 1,aG 19 41 [18],bL 20 19]) <|
  .cond (.tmp 20) (.seq (al [((some 21),.op (.build [(.emp 1),(.emp 1),(.emp 1),(.val (.int .i64 0))] [])),(none,.op (.store 4 (.tmp 2) (.tmp 21))),((some 3),.op (.bu (.val (.emp 1)))),aH 4 1]) <|
  .ret) (.skip)) <|
  .seq (.region true [⟨none,[aM 22 4 1,aG 23 77 [22],aM 24 4 1,aG 25 78 [24],aa 5 23,aa 6 25]⟩]) <|
  .seq (.seq (al [aa 26 5,ar 27 3 1,an 28 27,aN 29 1 26 28,an 30 29,bL 31 30]) <|
  .cond (.tmp 31) (.seq (al [((some 32),.op (.build [(.emp 1),(.emp 1),(.emp 1),(.val (.int .i64 0))] [])),(none,.op (.store 4 (.tmp 2) (.tmp 32))),((some 3),.op (.bu (.val (.emp 1)))),aH 4 9]) <|
  .ret) (.skip)) <|
  .seq (al [((some 33),.op (.bu (.val (.emp 2)))),ar 34 0 1,an 35 34,((some 36),.op (.app 3 32 (.tmp 33) (.tmp 35))),((some 37),.op (.build [(.emp 1),(.emp 1),(.emp 1),(.val (.int .i64 0))] [(0,1,(.tmp 36))])),((some 7),.op (.alloc [(.emp 1),(.emp 1),(.emp 1),(.val (.int .i64 0))])),(none,.op (.store 4 (.tmp 7) (.tmp 37)))]) <|
  .seq (al [ar 38 1 1,an 39 38,aL 40 39,((some 41),.op (.make 1 8 [(.val (.int .i64 0))] (.tmp 40) (.tmp 40))),aa 8 41]) <|
  .seq (.seq (al [aH 9 0]) <|
  .block 0 (.loop jc)) <|
  .seq (al [((some 10),.op (.bu (.val (.emp 1))))]) <|
  .seq (.seq (al [aH 11 0]) <|
  .block 2 (.loop iZ)) <|
  .seq (.seq (al [aH 13 0]) <|
  .block 4 (.loop js)) <|
  .seq (al [aa 158 8,ar 159 3 1,an 160 159,aN 161 1 158 160,an 162 161,ar 163 3 7,(none,.op (.store 1 (.tmp 163) (.tmp 162)))]) <|
  .seq (al [aM 164 4 7,aa 165 10,(none,.op (.store 4 (.tmp 2) (.tmp 164))),aa 3 165,aH 4 0]) <|
  .ret,
  [.cell 2 (some 4),.tmp 3,.tmp 4],166⟩
theorem o3:aX Tryz.prog 44 [1]=some kn:=by kernel_rfl
abbrev bI (l:List Int):List (List V):=l.map fun x=>[gi x]
abbrev gI (l:List ByteArray):List (List V):=l.map fun s=>[gs s]
theorem ie {l:List Int} {i:Nat} (h:i < l.length):(bI l).getD i []=[gi l[i]]:=by simp[List.getD_eq_getElem?_getD,h]
theorem ints_set (l:List Int) (i:Nat) (x:Int):(bI l).set i [gi x]=bI (l.set i x):=by simp[List.map_set]
theorem Ip {l:List Int} (h:0 < l.length):bI l≠[]:=by intro e; rw[List.map_eq_nil_iff] at e; rw[e] at h; simp at h
theorem sx {α:Type} {x:α} : ∀ {l:List α} {i:Nat},i < l.length→(l.set i x).take (i+1)=l.take i ++ [x]
  | y :: l,0,_=>by simp
  | y :: l,i+1,h=>by
    have:=sx (x:=x) (l:=l) (i:=i) (by simpa using h)
    simp only[List.set_cons_succ,List.take_succ_cons,this,List.cons_append]
def dA (n:Nat) (o:List Int):List Int:=(List.range n).map fun (x:Nat)=>aW o (x:Int)
theorem Im (n:Nat):dA n []=List.replicate n (-1):=by
  apply List.ext_getElem
  · simp[dA]
  · intro i h1 h2
    simp[dA,aW,cO]
theorem uU {n:Nat} {o:List Int} {x:Int} (h0:0≤x) (h1:x < n):(dA n o)[x.toNat]'(by simp[dA]; omega)=aW o x:=by
  simp[dA,show ((x.toNat:Nat):Int)=x by omega]
theorem IE {n:Nat} {o:List Int} {x:Int} (h0:0≤x) (h1:x < n) (hx:x ∉ o):(dA n o).set x.toNat o.length=dA n (o ++ [x]):=by
  apply List.ext_getElem
  · simp[dA]
  · intro i h2 h3
    rw[List.getElem_set]
    simp only[dA,List.getElem_map,List.getElem_range]
    rw[EY hx]
    by_cases e:x.toNat=i
    · rw[if_pos e,if_pos (by omega)]
    · rw[if_neg e,if_neg (by omega)]
abbrev uI:=List (V × aT)
def eE (b:uI):List (List V):=b.map fun x=>[gi x.2.left,x.1,gi x.2.prec]
def jq (b:uI):List eR:=b.map fun x=>(x.1,1,bI x.2.right)
theorem EE {h:aF} {u:V} {b:uI} (ho:bp h.view u 3 (eE b)) (hb:∀ x∈jq b,bp h.view x.1 x.2.1 x.2.2):dW h u (.bc ((b.map (·.2)).map aJ)):=by
  refine dW.own ho (by simp[eE]) (fun i hi=>?_) (fun i j hi hj=>?_)
  all_goals
    simp only[eE,List.length_map] at hi
    have e1:(eE b).getD i []=[gi b[i].2.left,b[i].1,gi b[i].2.prec]:=by simp[eE,List.getD_eq_getElem?_getD,hi]
    have e2:((b.map (·.2)).map aJ).getD i []=aJ b[i].2:=by simp[List.getD_eq_getElem?_getD,hi]
  · rw[e1,e2]; rfl
  · rw[e1,e2]
    rw[e2] at hj
    have hm:b[i]∈b:=List.getElem_mem _
    have ho:=hb (b[i].1,1,bI b[i].2.right) (List.mem_map.2 ⟨_,hm,rfl⟩)
    match j,hj with
    | 0,_=>exact .val _
    | 1,_=>exact ou ho
    | 2,_=>exact .val _
    | n+3,hj=>exact absurd hj (by simp only[aJ,List.length_cons,List.length_nil]; omega)
theorem Hw {h:aF} {u:V} {l:List ByteArray} (ho:bp h.view u 1 (gI l)):dW h u (encS l):=dW.Jh (f:=Value.string) ho
theorem Gi {h:aF} {u:V} {l:List Term} (ho:bp h.view u 3 (l.map ch)):dW h u (da l):=by
  refine dW.own ho rfl (fun _ _=>rfl) (fun i j hi hj=>?_)
  simp only[List.length_map] at hi
  have e1:(l.map ch).getD i []=ch l[i]:=by simp[List.getD_eq_getElem?_getD,hi]
  rw[e1] at hj ⊢
  match j,hj with
  | 0,_=>exact .val _
  | 1,_=>exact .val _
  | 2,_=>exact .val _
  | n+3,hj=>exact absurd hj (by simp only[ch,List.length_cons,List.length_nil]; omega)
def sg (x:av × List Int × Int):V:=.bz [.agg (ao x.1),encI x.2.1,gi x.2.2]
theorem rn {h:aF} {e:Int} {k1 k2 k3 k4:Nat} : dW h (.bz [.agg [.emp k1,.emp k2,.emp k3,gi 0],.emp k4,gi e]) (sg (u6,[],e)):=by
  refine .bz _ _ rfl fun i hi=>?_
  match i,hi with
  | 0,_ =>
    refine .agg _ _ rfl fun j hj=>?_
    match j,hj with
    | 0,_=>exact .emp _
    | 1,_=>exact .emp _
    | 2,_=>exact .emp _
    | 3,_=>exact .val _
    | n+4,hj=>exact absurd hj (by simp only[List.length_cons,List.length_nil]; omega)
  | 1,_=>exact .emp _
  | 2,_=>exact .val _
  | n+3,hi=>exact absurd hi (by simp only[List.length_cons,List.length_nil]; omega)
def I9 (g:av) (p q:List Bool) (b2 b7 b8:Nat) (u0:V) (i:Nat) (T:Env) (H:View):Prop :=
  (∃ u1 u3:V,T 10=u3∧(∀ x∈bw p q (g.rules.take i),0≤x∧x < g.au.length)∧(bw p q (g.rules.take i)).Nodup∧(bw p q (g.rules.take i)).length≤i ∧
    bD H [(.sl b7 0 1 4,4,[[u0,u1,.emp 1,gi 0]]),(.sl b8 0 g.au.length 1,1,bI (dA g.au.length (bw p q (g.rules.take i)))),(u3,1,bI (bO p q (g.rules.take i) 0)),
      (u1,1,gI ((bw p q (g.rules.take i)).map fun x=>g.au.getD x.toNat ⟨#[]⟩)),(u0,3,g.aC.map ch),(.sl b2 0 1 4,4,[[.emp 1,.emp 1,.emp 1,gi 0]])]) ∧
  T 1=.aK (ao g) 0∧T 2=.ptr b2 0 0∧T 5=bk p∧T 6=bk q∧T 7=.ptr b7 0 0∧T 8=.sl b8 0 g.au.length 1∧T 11=gi i
def Kb (g:av) (p q:List Bool) (b2 b7 b8:Nat) (u0 u1 u3:V) (o kl:List Int) (i:Nat) (T:Env) (H:View):Prop :=
  (∃ (u2:V) (bs:uI),bs.map (·.2)=((g.rules.filter (bq p q)).take i).map (aZ (aW o)) ∧
    bD H ((.sl b7 0 1 4,4,[[u0,u1,u2,gi 0]]) :: (.sl b8 0 g.au.length 1,1,bI (dA g.au.length o)) :: (u3,1,bI kl) ::
      (u1,1,gI (o.map fun x=>g.au.getD x.toNat ⟨#[]⟩)) :: (u0,3,g.aC.map ch) :: (u2,3,eE bs) :: (.sl b2 0 1 4,4,[[.emp 1,.emp 1,.emp 1,gi 0]]) :: jq bs)) ∧
  T 1=.aK (ao g) 0∧T 2=.ptr b2 0 0∧T 7=.ptr b7 0 0∧T 8=.sl b8 0 g.au.length 1∧T 10=u3∧T 13=gi i
def Kg (g:av) (b2 b7 b8 b14 b15:Nat) (u3:V) (o:List Int) (r:aT) (L:List eR) (i k:Nat) (T:Env) (H:View):Prop :=
  (∃ v:V,bD H ((.sl b15 0 1 3,3,[[gi (aW o r.left),v,gi r.prec]]) :: (v,1,bI ((aZ (aW o) r).right.take k)) :: (.sl b14 0 1 3,3,[aJ r]) :: L)) ∧
  T 1=.aK (ao g) 0∧T 2=.ptr b2 0 0∧T 7=.ptr b7 0 0∧T 8=.sl b8 0 g.au.length 1∧T 10=u3∧T 13=gi i∧T 14=.ptr b14 0 0∧T 15=.ptr b15 0 0∧T 16=gi k
theorem C9 {h:aF} {u0 u1 u2 u3:V} {x:av × List Int × Int} {b:uI} (h0:bp h.view u0 3 (x.1.aC.map ch)) (h1:bp h.view u1 1 (gI x.1.au)) (h2:bp h.view u2 3 (eE b)) (hb:∀ y∈jq b,bp h.view y.1 y.2.1 y.2.2)
    (hr:b.map (·.2)=x.1.rules) (h3:bp h.view u3 1 (bI x.2.1)):dW h (.bz [.agg [u0,u1,u2,gi x.1.start],u3,gi x.2.2]) (sg x):=by
  refine .bz _ _ rfl fun i hi=>?_
  match i,hi with
  | 0,_ =>
    refine .agg _ _ rfl fun j hj=>?_
    match j,hj with
    | 0,_=>exact Gi h0
    | 1,_=>exact Hw h1
    | 2,_=>have:=EE h2 hb; rw[hr] at this; exact this
    | 3,_=>exact .val _
    | n+4,hj=>exact absurd hj (by simp only[List.length_cons,List.length_nil]; omega)
  | 1,_=>exact ou h3
  | 2,_=>exact .val _
  | n+3,hi=>exact absurd hi (by simp only[List.length_cons,List.length_nil]; omega)
set_option maxHeartbeats 8000000 in
theorem B0 (g:av) (hg:g.Ok):cx Tryz.prog 44 [.agg (ao g)] (sg (dp g)):=by
  refine cx.of (fk g) ?_
  refine aD.of mixed o3 ?_
  simp (disch:=omega) only [↓wr,↓reduceIte,wq,ai,ah,ak,ae,af,ag,aj,isNil,Nat.reduceEqDiff,Nat.reduceAdd,Nat.reduceLT,Nat.reduceLeDiff,Int.reduceNeg,Int.reduceToNat,reduceCtorEq,kn,ao,encS]
  intro b2
  try simp (disch:=omega) only [↓wr,↓reduceIte,wq,ai,ah,ak,ae,af,ag,aj,isNil,Nat.reduceEqDiff,Nat.reduceAdd,Nat.reduceLT,Nat.reduceLeDiff,Int.reduceNeg,Int.reduceToNat,reduceCtorEq,ao,encS]
  refine az.pure (kM g hg) (by kernel_rfl) ?_
  repeat' (first | (refine aq.dec (fun _=>?_) (fun _=>?_)) | (refine aq.eq (fun _=>?_) (fun _=>?_)) | (refine aq.ne (fun _=>?_) (fun _=>?_)) | (refine aq.split (fun _=>?_) (fun _=>?_)) | (simp (disch:=omega) only [↓wr,↓reduceIte,wq,ai,ah,ak,ae,af,ag,aj,isNil,Nat.reduceEqDiff,Nat.reduceAdd,Nat.reduceLT,Nat.reduceLeDiff,Int.reduceNeg,Int.reduceToNat,reduceCtorEq,ao,encS,set_set]))
  · rename_i hr
    refine az.pure (pz g hg) (by kernel_rfl) ?_
    simp (disch:=omega) only [↓wr,↓reduceIte,wq,ai,ah,ak,ae,af,ag,aj,isNil,Nat.reduceEqDiff,Nat.reduceAdd,Nat.reduceLT,Nat.reduceLeDiff,Int.reduceNeg,Int.reduceToNat,reduceCtorEq,ao,encS]
    refine az.pure (xP g hg).pure (by kernel_rfl) ?_
    have hf:=aO hr
    have h3:=hf.dS
    have h4:=hf.start
    have hpl:=eT hr true
    have hql:=l0 hr
    have hred:=fa hr
    generalize aw g true=p at hpl hred
    generalize aQ g=q at hql hred
    have hps:p[g.start.toNat]?=some (p[g.start.toNat]'(by omega)):=List.getElem?_eq_getElem (by omega)
    have hpd:p.getD g.start.toNat false=p[g.start.toNat]'(by omega):=by simp[List.getD_eq_getElem?_getD,hps]
    generalize p[g.start.toNat]'(by omega)=s at hps hpd
    rw[hpd] at hred
    simp (disch:=omega) only [↓wr,↓reduceIte,wq,ai,ah,ak,ae,af,ag,aj,isNil,Nat.reduceEqDiff,Nat.reduceAdd,Nat.reduceLT,Nat.reduceLeDiff,Int.reduceNeg,Int.reduceToNat,reduceCtorEq,ao,encS,bk,List.getElem?_map,hps]
    cases s with
    | false =>
      rw[if_neg (by simp)] at hred
      simp (disch:=omega) only [↓wr,↓reduceIte,wq,ai,ah,ak,ae,af,ag,aj,isNil,Nat.reduceEqDiff,Nat.reduceAdd,Nat.reduceLT,Nat.reduceLeDiff,Int.reduceNeg,Int.reduceToNat,reduceCtorEq,ao,encS,set_set]
      rintro h' hh
      rw[hred]
      exact rn
    | true =>
      rw[if_pos rfl] at hred
      simp (disch:=omega) only [↓wr,↓reduceIte,wq,ai,ah,ak,ae,af,ag,aj,isNil,Nat.reduceEqDiff,Nat.reduceAdd,Nat.reduceLT,Nat.reduceLeDiff,Int.reduceNeg,Int.reduceToNat,reduceCtorEq,ao,encS,set_set]
      have hN:=hf.au
      have hN1:=hf.nN
      have hT:=hf.aC
      have hR:=hf.rules
      refine eN (L:=[(.sl b2 0 1 4,4,[[.emp 1,.emp 1,.emp 1,gi 0]])]) (bD.emp (bD.nil.new rfl 4 _)) (by simp[ch,aS]) (by unfold aI; simp; omega) (by unfold aI; simp; omega) ?_
      intro u0 H1 ho1 _
      have c0:=ho1.head.cells
      have k0:=ho1.head.ld
      simp (disch:=omega) only [↓wr,↓reduceIte,wq,ai,ah,ak,ae,af,ag,aj,isNil,Nat.reduceEqDiff,Nat.reduceAdd,Nat.reduceLT,Nat.reduceLeDiff,Int.reduceNeg,Int.reduceToNat,reduceCtorEq,ao,encS,c0,k0]
      intro b7 hb7
      have ho2:=ho1.new hb7 4 [[u0,.emp 1,.emp 1,gi 0]]
      try simp (disch:=omega) only [↓wr,↓reduceIte,wq,ai,ah,ak,ae,af,ag,aj,isNil,Nat.reduceEqDiff,Nat.reduceAdd,Nat.reduceLT,Nat.reduceLeDiff,Int.reduceNeg,Int.reduceToNat,reduceCtorEq,ao,encS,c0,k0,set_set]
      refine ⟨⟨by omega,by unfold aI; omega,by unfold aI; omega⟩,fun h=>by omega,?_⟩
      intro _ b8 hb8
      have hb87:=(bJ hb8 bM).1
      have ho3:=ho2.new (n:=b8) (by simp only[View.set,if_neg hb87]; exact (bJ (bJ hb8 bM).2 bM).2) 1 (bI (List.replicate g.au.length 0))
      try simp (disch:=omega) only [↓wr,↓reduceIte,wq,ai,ah,ak,ae,af,ag,aj,isNil,Nat.reduceEqDiff,Nat.reduceAdd,Nat.reduceLT,Nat.reduceLeDiff,Int.reduceNeg,Int.reduceToNat,reduceCtorEq,ao,encS,c0,k0,set_set]
      refine bo.up g.au.length (fun i T H=>(∃ l:List Int,l.length=g.au.length∧l.take i=List.replicate i (-1) ∧
        bD H [(.sl b8 0 g.au.length 1,1,bI l),(.sl b7 0 1 4,4,[[u0,.emp 1,.emp 1,gi 0]]),(u0,3,g.aC.map ch),(.sl b2 0 1 4,4,[[.emp 1,.emp 1,.emp 1,gi 0]])]) ∧
        T 1=.aK (ao g) 0∧T 2=.ptr b2 0 0∧T 5=bk p∧T 6=bk q∧T 7=.ptr b7 0 0∧T 8=.sl b8 0 g.au.length 1∧T 9=gi i) ?_ ?_
      · exact ⟨⟨List.replicate g.au.length 0,by simp,by simp,by simpa [set_set] using ho3⟩,rfl,rfl,rfl,rfl,rfl,rfl,rfl⟩
      rintro i k T H2 hk ⟨⟨l,hl1,hl2,ho⟩,t1,t2,t5,t6,t7,t8,t9⟩
      simp (disch:=omega) only [↓wr,↓reduceIte,wq,ai,ah,ak,ae,af,ag,aj,isNil,Nat.reduceEqDiff,Nat.reduceAdd,Nat.reduceLT,Nat.reduceLeDiff,Int.reduceNeg,Int.reduceToNat,reduceCtorEq,jc,t1,t2,t5,t6,t7,t8,t9]
      refine aq.dec (fun hc=>?_) (fun hc=>?_)
      · have hne:bI l≠[]:=by intro e; rw[List.map_eq_nil_iff] at e; rw[e] at hl1; simp at hl1; omega
        have hb:=(ho.obj hne).1
        have hbg:=ie (show i < l.length by omega)
        simp (disch:=omega) only [↓wr,↓reduceIte,wq,ai,ah,ak,ae,af,ag,aj,isNil,Nat.reduceEqDiff,Nat.reduceAdd,Nat.reduceLT,Nat.reduceLeDiff,Int.reduceNeg,Int.reduceToNat,reduceCtorEq,t1,t2,t5,t6,t7,t8,t9,hb,hbg,List.length_map]
        refine ⟨by omega,by omega,?_⟩
        refine aV hk (by omega) ⟨⟨l.set i (-1),by simp[hl1],?_,?_⟩,t1,t2,t5,t6,t7,t8,rfl⟩
        · rw[sx (by omega),hl2,List.replicate_succ']
        · rw[ints_set]
          exact ho.put (by simp) (by simp[hl1])
      · rw[List.take_of_length_le (by omega)] at hl2
        rw[hl2] at ho
        have ei:i=g.au.length:=by omega
        subst ei
        simp (disch:=omega) only [↓wr,↓reduceIte,wq,ai,ah,ak,ae,af,ag,aj,isNil,Nat.reduceEqDiff,Nat.reduceAdd,Nat.reduceLT,Nat.reduceLeDiff,Int.reduceNeg,Int.reduceToNat,reduceCtorEq,t1,t2,t5,t6,t7,t8,t9]
        have name_in:∀ o:List Int,(o.map fun x=>g.au.getD x.toNat ⟨#[]⟩).length=o.length:=fun o=>by simp
        refine bo.up g.rules.length (I9 g p q b2 b7 b8 u0) ?_ ?_
        · refine ⟨⟨.emp 1,.emp 1,rfl,by simp[bw],by simp[bw],by simp[bw],?_⟩,t1,t2,t5,t6,t7,t8,rfl⟩
          have h4:=((((ho.emp (k:=1) (sz:=1)).emp (k:=1) (sz:=1)).at 3 (by simp)).perm (DG.symm.cons _))
          have e0:bw p q (g.rules.take 0)=[]:=rfl
          rw[e0,Im]
          exact h4
        clear ho t1 t2 t5 t6 t7 t8 t9 hl1 hl2
        rintro i k T H2 hk ⟨⟨u1,u3,t10,hin,hnd,holen,ho⟩,t1,t2,t5,t6,t7,t8,t11⟩
        simp (disch:=omega) only [↓wr,↓reduceIte,wq,ai,ah,ak,ae,af,ag,aj,isNil,Nat.reduceEqDiff,Nat.reduceAdd,Nat.reduceLT,Nat.reduceLeDiff,Int.reduceNeg,Int.reduceToNat,reduceCtorEq,iZ,t1,t2,t5,t6,t7,t8,t10,t11,ao]
        refine aq.dec (fun hc=>?_) (fun hc=>?_)
        · have hg2:g.rules[i]?=some (g.rules[i]'(by omega)):=List.getElem?_eq_getElem (by omega)
          have hmem:g.rules[i]'(by omega)∈g.rules:=List.getElem_mem _
          have htk:g.rules.take (i+1)=g.rules.take i ++ [g.rules[i]'(by omega)]:=by rw[List.take_add_one,hg2]; rfl
          generalize g.rules[i]'(by omega)=r at hg2 hmem htk
          obtain ⟨hl1,hl2,hl3,hr6,hsy⟩:=hf.oF hg hmem
          have hqs:q[r.left.toNat]?=some (q[r.left.toNat]'(by omega)):=List.getElem?_eq_getElem (by omega)
          have hqd:q.getD r.left.toNat false=q[r.left.toNat]'(by omega):=by simp[List.getD_eq_getElem?_getD,hqs]
          generalize q[r.left.toNat]'(by omega)=qs at hqs hqd
          simp (disch:=omega) only [↓wr,↓reduceIte,wq,ai,ah,ak,ae,af,ag,aj,isNil,Nat.reduceEqDiff,Nat.reduceAdd,Nat.reduceLT,Nat.reduceLeDiff,Int.reduceNeg,Int.reduceToNat,reduceCtorEq,t1,t2,t5,t6,t7,t8,t10,t11,ao,aJ,List.getElem?_map,hg2]
          intro b12 hb12
          have hoA:=ho.new hb12 3 [aJ r]
          try simp (disch:=omega) only [↓wr,↓reduceIte,wq,ai,ah,ak,ae,af,ag,aj,isNil,Nat.reduceEqDiff,Nat.reduceAdd,Nat.reduceLT,Nat.reduceLeDiff,Int.reduceNeg,Int.reduceToNat,reduceCtorEq,t1,t2,t5,t6,t7,t8,t10,t11,aJ,encI,bk,List.getElem?_map,hqs,set_set]
          have hskip:∀ (T2:Env) (H':View),bq p q r=false→H'=H2.set b12 (.arr 3 [aJ r])→T2 10=u3→T2 1=.aK (ao g) 0→T2 2=.ptr b2 0 0→T2 5=bk p→T2 6=bk q→T2 7=.ptr b7 0 0→T2 8=.sl b8 0 g.au.length 1→T2 11=gi ((i:Int)+1) →
              ∃ k',k' < k∧yB g.rules.length k' (I9 g p q b2 b7 b8 u0) T2 H':=by
            intro T2 H' hkr hH' a10 a1 a2 a5 a6 a7 a8 a11
            have e1:bw p q (g.rules.take (i+1))=bw p q (g.rules.take i):=by rw[htk,o6,if_neg (by simp[hkr])]
            have e2:bO p q (g.rules.take (i+1)) 0=bO p q (g.rules.take i) 0:=by rw[htk,gX]; simp[bO,hkr]
            refine aV hk (by omega) ⟨⟨u1,u3,a10,by rw[e1]; exact hin,by rw[e1]; exact hnd,by rw[e1]; omega,by rw[e1,e2,hH']; exact hoA.tail⟩,a1,a2,a5,a6,a7,a8,by rw[a11]; rfl⟩
          cases qs with
          | false =>
            simp (disch:=omega) only [↓wr,↓reduceIte,wq,ai,ah,ak,ae,af,ag,aj,isNil,Nat.reduceEqDiff,Nat.reduceAdd,Nat.reduceLT,Nat.reduceLeDiff,Int.reduceNeg,Int.reduceToNat,reduceCtorEq,t1,t2,t5,t6,t7,t8,t10,t11]
            refine hskip _ _ (by rw[bq,hqd]; rfl) ?_ ?_ ?_ ?_ ?_ ?_ ?_ ?_ ?_
            all_goals first | exact t10 | exact t1 | exact t2 | exact t5 | exact t6 | exact t7 | exact t8 | rfl | (rw[set_set]; rfl)
          | true =>
            simp (disch:=omega) only [↓wr,↓reduceIte,wq,ai,ah,ak,ae,af,ag,aj,isNil,Nat.reduceEqDiff,Nat.reduceAdd,Nat.reduceLT,Nat.reduceLeDiff,Int.reduceNeg,Int.reduceToNat,reduceCtorEq,t1,t2,t5,t6,t7,t8,t10,t11,aJ,encI,bk]
            refine az.pure (A4 r.right p true (hg.bj r hmem).2.2.1 (fun s hs=>⟨(hsy s hs).1,fun h=>by rw[hpl]; exact (hsy s hs).2 h⟩)) (by kernel_rfl) ?_
            simp (disch:=omega) only [↓wr,↓reduceIte,wq,ai,ah,ak,ae,af,ag,aj,isNil,Nat.reduceEqDiff,Nat.reduceAdd,Nat.reduceLT,Nat.reduceLeDiff,Int.reduceNeg,Int.reduceToNat,reduceCtorEq,t1,t2,t5,t6,t7,t8,t10,t11]
            refine aq.split (fun hal=>?_) (fun hal=>?_)
            · simp (disch:=omega) only [↓wr,↓reduceIte,wq,ai,ah,ak,ae,af,ag,aj,isNil,Nat.reduceEqDiff,Nat.reduceAdd,Nat.reduceLT,Nat.reduceLeDiff,Int.reduceNeg,Int.reduceToNat,reduceCtorEq,t1,t2,t5,t6,t7,t8,t10,t11]
              have hkr:bq p q r=true:=by rw[bq,hqd,hal]; rfl
              intro m hm
              try simp (disch:=omega) only [↓wr,↓reduceIte,wq,ai,ah,ak,ae,af,ag,aj,isNil,Nat.reduceEqDiff,Nat.reduceAdd,Nat.reduceLT,Nat.reduceLeDiff,Int.reduceNeg,Int.reduceToNat,reduceCtorEq,t1,t2,t5,t6,t7,t8,t10,t11,de]
              have hm12:=(bJ hm bM).1
              have hm:=(bJ (bJ hm bM).2 bM).2
              have hoB:=(hoA.fresh (n:=m) (o:=.arr 1 [[gi i]]) (by simp only[View.set,if_neg hm12]; exact hm)).at 3 (by simp)
              have hkl:(bO p q (g.rules.take i) 0).length≤40:=by
                rw[hU]
                have h1:=List.length_filter_le (bq p q) (g.rules.take i)
                have h2:(g.rules.take i).length≤i:=List.length_take_le _ _
                have:=hf.rules
                omega
              refine eN (by rw[set_set]; exact hoB) (by simp[aS]) (by unfold aI; simp at hkl ⊢; omega) (by unfold aI; simp at hkl ⊢; omega) ?_
              intro u3' H3 ho3 _
              have f12:=((ho3.at 1 (by simp)).obj (by simp)).1
              have f7:=((ho3.at 2 (by simp)).obj (by simp)).1
              have f8:=((ho3.at 3 (by simp)).obj (Ip (by simp[dA]; omega))).1
              have hu1:dV u1=some (gI ((bw p q (g.rules.take i)).map fun x=>g.au.getD x.toNat ⟨#[]⟩)).length:=(ho3.at 4 (by simp)).head.len
              have hbg:=ie (l:=dA g.au.length (bw p q (g.rules.take i))) (i:=r.left.toNat) (by simp[dA]; omega)
              rw[uU hl2 hl3] at hbg
              simp only[aJ,encI] at f12
              simp (disch:=omega) only [↓wr,↓reduceIte,wq,ai,ah,ak,ae,af,ag,aj,isNil,Nat.reduceEqDiff,Nat.reduceAdd,Nat.reduceLT,Nat.reduceLeDiff,Int.reduceNeg,Int.reduceToNat,reduceCtorEq,t1,t2,t5,t6,t7,t8,t11,f12,f7,f8,hbg]
              refine ⟨by omega,by simp[dA]; omega,?_⟩
              have e2:bO p q (g.rules.take (i+1)) 0=bO p q (g.rules.take i) 0 ++ [(i:Int)]:=by
                rw[htk,gX]; simp[bO,hkr,show i≤g.rules.length by omega]
              have e1:bw p q (g.rules.take (i+1))=cH (bw p q (g.rules.take i)) r:=by rw[htk,o6,if_pos hkr]
              generalize bw p q (g.rules.take i)=o at *
              generalize bO p q (g.rules.take i) 0=kl at *
              refine aq.dec (fun hlt=>?_) (fun hlt=>?_)
              · have hx:r.left ∉ o:=oS.1 hlt
                have e1':cH o r=o ++ [r.left]:=by rw[cH,if_neg hx]
                have hne78:b7≠b8:=ho3.FT 2 3 rfl rfl (by omega)
                have hne12:b12≠b8:=ho3.FT 1 3 rfl rfl (by omega)
                have hgn:g.au[r.left.toNat]?=some (g.au[r.left.toNat]'(by omega)):=List.getElem?_eq_getElem (by omega)
                have hgnd:g.au.getD r.left.toNat ⟨#[]⟩=g.au[r.left.toNat]'(by omega):=by simp[List.getD_eq_getElem?_getD,hgn]
                generalize g.au[r.left.toNat]'(by omega)=nm at hgn hgnd
                simp (disch:=omega) only [↓wr,↓reduceIte,wq,ai,ah,ak,ae,af,ag,aj,isNil,Nat.reduceEqDiff,Nat.reduceAdd,Nat.reduceLT,Nat.reduceLeDiff,Int.reduceNeg,Int.reduceToNat,reduceCtorEq,t1,t2,t5,t6,t7,t8,t11,f12,f7,f8,hbg,hu1,List.length_map]
                try refine ⟨by omega,by simp[dA]; omega,?_⟩
                try simp (disch:=omega) only [↓wr,↓reduceIte,wq,ai,ah,ak,ae,af,ag,aj,isNil,Nat.reduceEqDiff,Nat.reduceAdd,Nat.reduceLT,Nat.reduceLeDiff,Int.reduceNeg,Int.reduceToNat,reduceCtorEq,t1,t2,t5,t6,t7,t8,t11,f12,f7,f8,hbg,hu1,List.length_map,hne78,hne12,ao,encS,List.getElem?_map,hgn]
                intro m2 hm2
                have hm28:=(bJ hm2 bM).1
                have hm2:=(bJ hm2 bM).2
                have hes:(bI (dA g.au.length o)).set r.left.toNat [gi o.length]=bI (dA g.au.length (o ++ [r.left])):=by rw[ints_set,IE hl2 hl3 hx]
                have ho4:=(ho3.at 3 (by simp)).put (es':=(bI (dA g.au.length o)).set r.left.toNat [gi o.length]) (by simp) (by simp[dA])
                have ho5:=(ho4.fresh (n:=m2) (o:=.arr 1 [[gs nm]]) (by simp only[View.set,if_neg hm28]; exact hm2)).at 4 (by simp)
                have hN16:o.length≤40:=by omega
                try simp (disch:=omega) only [↓wr,↓reduceIte,wq,ai,ah,ak,ae,af,ag,aj,isNil,Nat.reduceEqDiff,Nat.reduceAdd,Nat.reduceLT,Nat.reduceLeDiff,Int.reduceNeg,Int.reduceToNat,reduceCtorEq,t1,t2,t5,t6,t7,t8,t11,f12,f7,f8,hbg,hu1,List.length_map,hne78,hne12,de]
                refine eN ho5 (by simp[aS]) (by unfold aI; simp; omega) (by unfold aI; simp; omega) ?_
                intro u1' H5 ho6 _
                have c1:=ho6.head.cells
                have k1:=ho6.head.ld
                have f7':=((ho6.at 4 (by simp)).obj (by simp)).1
                simp (disch:=omega) only [↓wr,↓reduceIte,wq,ai,ah,ak,ae,af,ag,aj,isNil,Nat.reduceEqDiff,Nat.reduceAdd,Nat.reduceLT,Nat.reduceLeDiff,Int.reduceNeg,Int.reduceToNat,reduceCtorEq,t1,t2,t5,t6,t7,t8,t11,f7',c1,k1]
                have ho7:=(ho6.at 4 (by simp)).put (es':=[[u0,u1',.emp 1,gi 0]]) rfl rfl
                have ho8:=(((ho7.at 4 (by simp)).tail).perm (DG.cons _))
                refine aV hk (by omega) ⟨⟨u1',u3',rfl,?_,?_,?_,?_⟩,t1,t2,t5,t6,t7,t8,rfl⟩
                · rw[e1,e1']; intro x hx'; rcases List.mem_append.1 hx' with h | h
                  · exact hin x h
                  · simp at h; subst h; exact ⟨hl2,hl3⟩
                · rw[e1]; exact w8 hnd
                · rw[e1,e1']; simp; omega
                · rw[e1,e1',e2]
                  have:=ho8
                  rw[hes] at this
                  simp only[List.map_append,List.map_cons,List.map_nil,hgnd]
                  exact this
              · have hx:r.left∈o:=by
                  refine Classical.byContradiction fun h=>?_
                  have:=oS.2 h
                  omega
                have e1':cH o r=o:=by rw[cH,if_pos hx]
                simp (disch:=omega) only [↓wr,↓reduceIte,wq,ai,ah,ak,ae,af,ag,aj,isNil,Nat.reduceEqDiff,Nat.reduceAdd,Nat.reduceLT,Nat.reduceLeDiff,Int.reduceNeg,Int.reduceToNat,reduceCtorEq,t1,t2,t5,t6,t7,t8,t11]
                have ho4:=(((ho3.at 1 (by simp)).tail).perm DG)
                refine aV hk (by omega) ⟨⟨u1,u3',rfl,?_,?_,?_,?_⟩,t1,t2,t5,t6,t7,t8,rfl⟩
                · rw[e1,e1']; exact hin
                · rw[e1,e1']; exact hnd
                · rw[e1,e1']; omega
                · rw[e1,e1',e2]
                  simp only[List.map_append,List.map_cons,List.map_nil]
                  exact ho4
            · simp (disch:=omega) only [↓wr,↓reduceIte,wq,ai,ah,ak,ae,af,ag,aj,isNil,Nat.reduceEqDiff,Nat.reduceAdd,Nat.reduceLT,Nat.reduceLeDiff,Int.reduceNeg,Int.reduceToNat,reduceCtorEq,t1,t2,t5,t6,t7,t8,t10,t11]
              refine hskip _ _ (by rw[bq,hqd,hal]; rfl) ?_ ?_ ?_ ?_ ?_ ?_ ?_ ?_ ?_
              all_goals first | exact t10 | exact t1 | exact t2 | exact t5 | exact t6 | exact t7 | exact t8 | rfl | (rw[set_set]; rfl)
        · rw[List.take_of_length_le (by omega)] at ho hin hnd holen
          have hkl40:(bO p q g.rules 0).length≤40:=by
            rw[hU]; have h1:=List.length_filter_le (bq p q) g.rules; omega
          have hkg:=py p q g.rules 0
          have hkln:=hU p q g.rules 0
          have hstin:g.start.toNat < (dA g.au.length (bw p q g.rules)).length:=by simp[dA]; omega
          have hstb:=ie hstin
          rw[uU h3 h4] at hstb
          have hrg:eO g (aW (bw p q g.rules)) p q=⟨g.aC,(bw p q g.rules).map fun x=>g.au.getD x.toNat ⟨#[]⟩,(g.rules.filter (bq p q)).map (aZ (aW (bw p q g.rules))),aW (bw p q g.rules) g.start⟩:=rfl
          rw[hrg] at hred
          clear hrg
          generalize bw p q g.rules=o at *
          generalize bO p q g.rules 0=kl at *
          simp (disch:=omega) only [↓wr,↓reduceIte,wq,ai,ah,ak,ae,af,ag,aj,isNil,Nat.reduceEqDiff,Nat.reduceAdd,Nat.reduceLT,Nat.reduceLeDiff,Int.reduceNeg,Int.reduceToNat,reduceCtorEq,t1,t2,t5,t6,t7,t8,t10,t11]
          refine bo.up kl.length (Kb g p q b2 b7 b8 u0 u1 u3 o kl) ?_ ?_
          · refine ⟨⟨.emp 1,[],by simp,?_⟩,t1,t2,t7,t8,t10,rfl⟩
            exact (ho.emp (k:=1) (sz:=3)).perm (nY [(.sl b7 0 1 4,4,[[u0,u1,.emp 1,gi 0]]),(.sl b8 0 g.au.length 1,1,bI (dA g.au.length o)),(u3,1,bI kl),(u1,1,gI (o.map fun x=>g.au.getD x.toNat ⟨#[]⟩)),(u0,3,g.aC.map ch),(.emp 1,3,[]),(.sl b2 0 1 4,4,[[.emp 1,.emp 1,.emp 1,gi 0]])] 5 (by simp)).symm
          clear ho t1 t2 t5 t6 t7 t8 t10 t11
          rintro i k T H2 hk ⟨⟨u2,bs,hbs,ho⟩,t1,t2,t7,t8,t10,t13⟩
          have hu3:dV u3=some (bI kl).length:=(ho.own 2 rfl).len
          simp (disch:=omega) only [↓wr,↓reduceIte,wq,ai,ah,ak,ae,af,ag,aj,isNil,Nat.reduceEqDiff,Nat.reduceAdd,Nat.reduceLT,Nat.reduceLeDiff,Int.reduceNeg,Int.reduceToNat,reduceCtorEq,js,t1,t2,t7,t8,t10,t13,hu3,List.length_map]
          refine aq.dec (fun hc=>?_) (fun hc=>?_)
          · obtain ⟨n3,e3,hn3⟩:=(ho.own 2 rfl).sl (by simp; omega)
            rw[List.length_map] at e3
            subst e3
            obtain ⟨m,hm1,hm2,hm3⟩:=hkg i (by omega)
            have hbg:=ie (show i < kl.length by omega)
            rw[Int.zero_add] at hm1
            have hki:kl[i]'(by omega)=(m:Int):=by
              rw[List.getElem?_eq_getElem (show i < kl.length by omega)] at hm1; simpa using hm1
            rw[hki] at hbg
            have hg2:g.rules[m]?=some (g.rules[m]'hm3):=List.getElem?_eq_getElem hm3
            have hmem:g.rules[m]'hm3∈g.rules:=List.getElem_mem _
            have htk:(g.rules.filter (bq p q)).take (i+1)=(g.rules.filter (bq p q)).take i ++ [g.rules[m]'hm3]:=by
              rw[List.take_add_one,← hm2,hg2]; rfl
            generalize g.rules[m]'hm3=r at hg2 hmem htk
            obtain ⟨hl1,hl2,hl3,hr6,hsy⟩:=hf.oF hg hmem
            simp (disch:=omega) only [↓wr,↓reduceIte,wq,ai,ah,ak,ae,af,ag,aj,isNil,Nat.reduceEqDiff,Nat.reduceAdd,Nat.reduceLT,Nat.reduceLeDiff,Int.reduceNeg,Int.reduceToNat,reduceCtorEq,t1,t2,t7,t8,t10,t13,hn3,hbg,List.length_map,ao,aJ,List.getElem?_map,hg2]
            refine ⟨by omega,by omega,?_⟩
            intro b14 hb14
            have hoA:=ho.new hb14 3 [aJ r]
            have f8:=hoA.is 2 rfl (by simp[dA]; omega)
            have hbg2:=ie (l:=dA g.au.length o) (i:=r.left.toNat) (by simp[dA]; omega)
            rw[uU hl2 hl3] at hbg2
            have hn814:b8≠b14:=hoA.FT 2 0 rfl rfl (by omega)
            have g8:H2 b8=.arr 1 (bI (dA g.au.length o)):=ho.is 1 rfl (by simp[dA]; omega)
            try simp (disch:=omega) only [↓wr,↓reduceIte,wq,ai,ah,ak,ae,af,ag,aj,isNil,Nat.reduceEqDiff,Nat.reduceAdd,Nat.reduceLT,Nat.reduceLeDiff,Int.reduceNeg,Int.reduceToNat,reduceCtorEq,t1,t2,t7,t8,t10,t13,g8,hn814,hbg2,List.length_map,set_set,encI]
            refine ⟨by omega,by simp[dA]; omega,?_⟩
            intro b15 hb15
            have hbne:=(bJ hb15 bM).1
            have hb15:=(bJ (bJ hb15 bM).2 bM).2
            have hoB:=(((hoA.new (n:=b15) (by simp only[View.set,if_neg hbne]; exact hb15) 3 [[gi (aW o r.left),.emp 1,gi r.prec]]).emp (k:=1) (sz:=1)).perm (.swap _ _ _))
            generalize hL:((V.sl b7 0 1 4,4,[[u0,u1,u2,gi 0]]) :: (V.sl b8 0 g.au.length 1,1,bI (dA g.au.length o)) :: (V.sl n3 0 kl.length 1,1,bI kl) ::
              (u1,1,gI (o.map fun x=>g.au.getD x.toNat ⟨#[]⟩)) :: (u0,3,g.aC.map ch) :: (u2,3,eE bs) :: (V.sl b2 0 1 4,4,[[V.emp 1,V.emp 1,V.emp 1,gi 0]]) :: jq bs:List eR)=L at hoB
            have hL1:L[1]?=some (.sl b8 0 g.au.length 1,1,bI (dA g.au.length o)):=by rw[← hL]; rfl
            try simp (disch:=omega) only [↓wr,↓reduceIte,wq,ai,ah,ak,ae,af,ag,aj,isNil,Nat.reduceEqDiff,Nat.reduceAdd,Nat.reduceLT,Nat.reduceLeDiff,Int.reduceNeg,Int.reduceToNat,reduceCtorEq,t1,t2,t7,t8,t10,t13,set_set]
            refine bo.up r.right.length (Kg g b2 b7 b8 b14 b15 (.sl n3 0 kl.length 1) o r L i) ?_ ?_
            · exact ⟨⟨.emp 1,by rw[set_set,set_set]; exact hoB⟩,t1,t2,t7,t8,t10,t13,rfl,rfl,rfl⟩
            clear hoA hoB f8 g8 hb14 hb15 t1 t2 t7 t8 t10 t13
            rintro k k2 T H3 hk2 ⟨⟨v,hoC⟩,t1,t2,t7,t8,t10,t13,t14,t15,t16⟩
            have f14:=hoC.is 2 rfl (by simp)
            have f15:=hoC.is 0 rfl (by simp)
            have f8:H3 b8=.arr 1 (bI (dA g.au.length o)):=hoC.is 4 (by simpa using hL1) (by simp[dA]; omega)
            simp only[aJ] at f14
            simp (disch:=omega) only [↓wr,↓reduceIte,wq,ai,ah,ak,ae,af,ag,aj,isNil,Nat.reduceEqDiff,Nat.reduceAdd,Nat.reduceLT,Nat.reduceLeDiff,Int.reduceNeg,Int.reduceToNat,reduceCtorEq,jl,t1,t2,t7,t8,t10,t13,t14,t15,t16,f14,encI]
            refine aq.dec (fun hcc=>?_) (fun hcc=>?_)
            · have hgs:r.right[k]?=some (r.right[k]'(by omega)):=List.getElem?_eq_getElem (by omega)
              have hms:r.right[k]'(by omega)∈r.right:=List.getElem_mem _
              have hts:(aZ (aW o) r).right.take (k+1)=(aZ (aW o) r).right.take k ++ [if r.right[k]'(by omega) < 0 then -1 - aW o (-1 - r.right[k]'(by omega)) else r.right[k]'(by omega)]:=by
                rw[List.take_add_one]; simp[aZ,hgs]
              have hlk:((aZ (aW o) r).right.take k).length≤6:=by
                have h1:(aZ (aW o) r).right.length=r.right.length:=by simp[aZ]
                have h2:((aZ (aW o) r).right.take k).length≤(aZ (aW o) r).right.length:=by rw[List.length_take]; omega
                omega
              generalize r.right[k]'(by omega)=s at hgs hms hts
              obtain ⟨⟨s1,s2⟩,s3⟩:=hsy s hms
              simp (disch:=omega) only [↓wr,↓reduceIte,wq,ai,ah,ak,ae,af,ag,aj,isNil,Nat.reduceEqDiff,Nat.reduceAdd,Nat.reduceLT,Nat.reduceLeDiff,Int.reduceNeg,Int.reduceToNat,reduceCtorEq,t1,t2,t7,t8,t10,t13,t14,t15,t16,f14,encI,List.getElem?_map,hgs]
              have hbd:=xO o (-1 - s)
              have hob:o.length≤40:=by omega
              refine aq.dec (fun hneg=>?_) (fun hneg=>?_)
              · rw[if_pos hneg] at hts
                have hin1:=s3 hneg
                have hbg3:=ie (l:=dA g.au.length o) (i:=(-1 - s).toNat) (by simp[dA]; omega)
                rw[uU (by omega) hin1] at hbg3
                simp (disch:=omega) only [↓wr,↓reduceIte,wq,ai,ah,ak,ae,af,ag,aj,isNil,Nat.reduceEqDiff,Nat.reduceAdd,Nat.reduceLT,Nat.reduceLeDiff,Int.reduceNeg,Int.reduceToNat,reduceCtorEq,t1,t2,t7,t8,t10,t13,t14,t15,t16,f14,f15,f8,hbg3,List.length_map]
                refine ⟨by omega,by simp[dA]; omega,?_⟩
                intro m hm
                try simp (disch:=omega) only [↓wr,↓reduceIte,wq,ai,ah,ak,ae,af,ag,aj,isNil,Nat.reduceEqDiff,Nat.reduceAdd,Nat.reduceLT,Nat.reduceLeDiff,Int.reduceNeg,Int.reduceToNat,reduceCtorEq,t1,t2,t7,t8,t10,t13,t14,t15,t16,de]
                have hoD:=(hoC.fresh (o:=.arr 1 [[gi (-1 - aW o (-1 - s))]]) hm).at 1 (by simp)
                refine eN hoD (by simp[aS]) (by unfold aI; simp at hlk ⊢; omega) (by unfold aI; simp at hlk ⊢; omega) ?_
                intro v' H4 hoE _
                have cv:=hoE.head.cells
                have kv:=hoE.head.ld
                have f15':=hoE.is 1 rfl (by simp)
                simp (disch:=omega) only [↓wr,↓reduceIte,wq,ai,ah,ak,ae,af,ag,aj,isNil,Nat.reduceEqDiff,Nat.reduceAdd,Nat.reduceLT,Nat.reduceLeDiff,Int.reduceNeg,Int.reduceToNat,reduceCtorEq,t1,t2,t7,t8,t10,t13,t14,t15,t16,f15',cv,kv]
                have hoF:=(hoE.at 1 (by simp)).put (es':=[[gi (aW o r.left),v',gi r.prec]]) rfl rfl
                refine aV hk2 (by omega) ⟨⟨v',?_⟩,t1,t2,t7,t8,t10,t13,t14,t15,rfl⟩
                rw[hts]
                simp only[List.map_append,List.map_cons,List.map_nil]
                exact hoF
              · rw[if_neg hneg] at hts
                simp (disch:=omega) only [↓wr,↓reduceIte,wq,ai,ah,ak,ae,af,ag,aj,isNil,Nat.reduceEqDiff,Nat.reduceAdd,Nat.reduceLT,Nat.reduceLeDiff,Int.reduceNeg,Int.reduceToNat,reduceCtorEq,t1,t2,t7,t8,t10,t13,t14,t15,t16,f14,f15,f8]
                intro m hm
                try simp (disch:=omega) only [↓wr,↓reduceIte,wq,ai,ah,ak,ae,af,ag,aj,isNil,Nat.reduceEqDiff,Nat.reduceAdd,Nat.reduceLT,Nat.reduceLeDiff,Int.reduceNeg,Int.reduceToNat,reduceCtorEq,t1,t2,t7,t8,t10,t13,t14,t15,t16,de]
                have hoD:=(hoC.fresh (o:=.arr 1 [[gi s]]) hm).at 1 (by simp)
                refine eN hoD (by simp[aS]) (by unfold aI; simp at hlk ⊢; omega) (by unfold aI; simp at hlk ⊢; omega) ?_
                intro v' H4 hoE _
                have cv:=hoE.head.cells
                have kv:=hoE.head.ld
                have f15':=hoE.is 1 rfl (by simp)
                simp (disch:=omega) only [↓wr,↓reduceIte,wq,ai,ah,ak,ae,af,ag,aj,isNil,Nat.reduceEqDiff,Nat.reduceAdd,Nat.reduceLT,Nat.reduceLeDiff,Int.reduceNeg,Int.reduceToNat,reduceCtorEq,t1,t2,t7,t8,t10,t13,t14,t15,t16,f15',cv,kv]
                have hoF:=(hoE.at 1 (by simp)).put (es':=[[gi (aW o r.left),v',gi r.prec]]) rfl rfl
                refine aV hk2 (by omega) ⟨⟨v',?_⟩,t1,t2,t7,t8,t10,t13,t14,t15,rfl⟩
                rw[hts]
                simp only[List.map_append,List.map_cons,List.map_nil]
                exact hoF
            · rw[List.take_of_length_le (by simp[aZ]; omega)] at hoC
              subst hL
              have f7:=hoC.is 3 rfl (by simp)
              have cv:=(hoC.own 1 rfl).cells
              have kv:=(hoC.own 1 rfl).ld
              have hbl:(eE bs).length≤40:=by
                have h1:=congrArg List.length hbs
                simp only[List.length_map,List.length_take] at h1
                simp only[eE,List.length_map]
                omega
              simp (disch:=omega) only [↓wr,↓reduceIte,wq,ai,ah,ak,ae,af,ag,aj,isNil,Nat.reduceEqDiff,Nat.reduceAdd,Nat.reduceLT,Nat.reduceLeDiff,Int.reduceNeg,Int.reduceToNat,reduceCtorEq,t1,t2,t7,t8,t10,t13,t14,t15,t16,f7,f15,cv,kv]
              intro m hm
              try simp (disch:=omega) only [↓wr,↓reduceIte,wq,ai,ah,ak,ae,af,ag,aj,isNil,Nat.reduceEqDiff,Nat.reduceAdd,Nat.reduceLT,Nat.reduceLeDiff,Int.reduceNeg,Int.reduceToNat,reduceCtorEq,t1,t2,t7,t8,t10,t13,t14,t15,t16,de]
              have hoD:=(hoC.fresh (o:=.arr 3 [[gi (aW o r.left),v,gi r.prec]]) hm).at 8 (by simp)
              refine eN hoD (by simp[uK,kv]) (by unfold aI; simp at hbl ⊢; omega) (by unfold aI; simp at hbl ⊢; omega) ?_
              intro u2' H4 hoE _
              have cu:=hoE.head.cells
              have ku:=hoE.head.ld
              have f7':=hoE.is 4 rfl (by simp)
              simp (disch:=omega) only [↓wr,↓reduceIte,wq,ai,ah,ak,ae,af,ag,aj,isNil,Nat.reduceEqDiff,Nat.reduceAdd,Nat.reduceLT,Nat.reduceLeDiff,Int.reduceNeg,Int.reduceToNat,reduceCtorEq,t1,t2,t7,t8,t10,t13,t14,t15,t16,f7',cu,ku]
              have hoF:=(hoE.at 4 (by simp)).put (es':=[[u0,u1,u2',gi 0]]) rfl rfl
              have hoG:=((((hoF.at 2 (by simp)).tail).at 3 (by simp)).tail)
              refine aV hk (by omega) ⟨⟨u2',bs ++ [(v,aZ (aW o) r)],?_,?_⟩,t1,t2,t7,t8,t10,rfl⟩
              · rw[List.map_append,hbs,htk,List.map_append]; rfl
              · refine hoG.perm (.cons _ ?_)
                simp only[jq,eE,List.map_append,List.map_cons,List.map_nil]
                refine .trans ?_ (nY _ 4 (by simp)).symm
                refine .cons _ ?_
                exact (List.perm_append_singleton (v,1,bI (aZ (aW o) r).right) ((.sl b8 0 g.au.length 1,1,bI (dA g.au.length o)) :: (.sl n3 0 kl.length 1,1,bI kl) :: (u1,1,gI (o.map fun x=>g.au.getD x.toNat ⟨#[]⟩)) :: (u0,3,g.aC.map ch) :: (.sl b2 0 1 4,4,[[.emp 1,.emp 1,.emp 1,gi 0]]) :: jq bs)).symm
          · rw[List.take_of_length_le (by omega)] at hbs
            have f7:=ho.is 0 rfl (by simp)
            have f8:H2 b8=.arr 1 (bI (dA g.au.length o)):=ho.is 1 rfl (by simp[dA]; omega)
            have f2:=ho.is 6 rfl (by simp)
            have n72:b7≠b2:=ho.FT 0 6 rfl rfl (by omega)
            have c1:=(ho.own 3 rfl).cells
            have k1:=(ho.own 3 rfl).ld
            have c2:=(ho.own 5 rfl).cells
            have k2:=(ho.own 5 rfl).ld
            simp (disch:=omega) only [↓wr,↓reduceIte,wq,ai,ah,ak,ae,af,ag,aj,isNil,Nat.reduceEqDiff,Nat.reduceAdd,Nat.reduceLT,Nat.reduceLeDiff,Int.reduceNeg,Int.reduceToNat,reduceCtorEq,t1,t2,t7,t8,t10,t13,f7,f8,f2,n72,n72.symm,hstb,c0,k0,c1,k1,c2,k2,ao,List.length_map]
            refine ⟨by omega,by simp[dA]; omega,fun h' hh=>?_⟩
            have hoA:=ho.put (es':=[[u0,u1,u2,gi (aW o g.start)]]) rfl rfl
            have hoB:=(hoA.at 6 (by simp)).put (es':=[[u0,u1,u2,gi (aW o g.start)]]) rfl rfl
            have hv:h'.view=(H2.set b7 (.arr 4 [[u0,u1,u2,gi (aW o g.start)]])).set b2 (.arr 4 [[u0,u1,u2,gi (aW o g.start)]]):=hh
            rw[← hv] at hoB
            rw[hred]
            exact C9 (x:=(⟨g.aC,o.map fun x=>g.au.getD x.toNat ⟨#[]⟩,(g.rules.filter (bq p q)).map (aZ (aW o)),aW o g.start⟩,kl,0)) (b:=bs) (hoB.own 5 rfl) (hoB.own 4 rfl) (hoB.own 6 rfl) (fun y hy=>hoB.1 y (by
              refine List.mem_cons_of_mem _ (List.mem_cons_of_mem _ (List.mem_cons_of_mem _ (List.mem_cons_of_mem _ (List.mem_cons_of_mem _ (List.mem_cons_of_mem _ (List.mem_cons_of_mem _ ?_))))))
              exact hy)) hbs (hoB.own 3 rfl)
  · rename_i hr
    intro h' hh
    rw[dp,if_neg (by simp[hr])]
    exact rn
end Gv
set_option linter.unusedSimpArgs false
set_option maxRecDepth 100000
namespace Gv
open Go Go.Proofs
theorem View.Jl {H:View} {id:Nat} {o:bE} (h:H id=o):H.set id o=H:=by
  funext m
  simp only[View.set]
  split
  · rename_i e; subst e; exact h.symm
  · rfl
theorem vp {P:Program} {T:Env} {H:View} {K:V→View→Prop} {w:cn (T,H,K)} {t e ty:TypeId} {x:Operand} {id off len esz z:Nat} {es:List (List V)} (hu:P.underlying t=some (.slice e)) (he:P.underlying e=some (.int .u8))
    (hx:ev T x=.sl id off len esz) (hl:len≠0) (hH:H id=.arr z es) (hk:K (.sl id off len esz) H):nO P (.convert t t x) ty T H K w:=by
  intro n _
  have hb:hX P t t=true:=by simp[hX,hu]
  refine ⟨.sl id off len esz,.dN id (.arr z es),[id],?_,?_⟩
  · simp only[sI,bN,oper]
    rw[if_pos hb,hx]
    simp[jI,hu,he,hH,hl]
  · show K _ (H.set id (.arr z es))
    rw[View.Jl hH]; exact hk
theorem xE {H:View} {n:Nat} (l:List Int) (h:H n=.arr 1 (l.map fun x=>[gy x])):bW H (.sl n 0 l.length 1) (tx l) :=
  bW.own (.inr ⟨n,by simp,h⟩) fun e he v hv=>by
    obtain ⟨x,_,rfl⟩:=List.mem_map.1 he
    simp at hv; subst hv; exact .val _
theorem az.mw {P:Program} {q:Bool} {f:FuncId} {H:View} {vs ts:List V} {K:V→View→Prop} {v:cn (H,K)} {t:V} (Φ:View→Prop) (hc:aE P f ts t) (hok:ct P f=true) (hf:tQ t) (hl:kr H vs ts) (hΦ:Φ H) (hk:∀ H,Φ H→K t H):az P q f vs H K v :=
  az.wa hc hok hf hl (hk H hΦ)
theorem l9 {g:av} (e:kX g=false):g.Small:=by
  simp only[kX,Bool.or_eq_false_iff,decide_eq_false_iff_not] at e
  exact ⟨by omega⟩
theorem rA (g:av):aE Tryz.prog 13 [.agg (ao g)] (gb (kX g)):=aE.val (fk g) fun H=>(Hd g H).mono fun _ _ h=>h.1
theorem Fj {a b:V} (ha:Tree a) (hb:Tree b):Tree (.bz [a,b]):=.bz _ fun i hi=>by
  match i,hi with
  | 0,_=>exact ha
  | 1,_=>exact hb
  | n+2,h=>exact absurd h (by simp)
theorem fv {H:View} {id n:Nat} {l:List Int} (hv:H id=.arr 1 (bI l)) (hn:n=l.length):bW H (.sl id 0 n 1) (encI l):=by
  subst hn
  exact bW.own (sz:=1) (.inr ⟨id,by simp,hv⟩) fun e he v hv=>by
    obtain ⟨x,_,rfl⟩:=List.mem_map.1 he
    simp at hv; subst hv; exact .val _
theorem F2 (l:List Int) (i:Nat) (x:Int):(bI l).set i [gi x]=bI (l.set i x):=by simp[List.map_set]
theorem bp.elems {H:View} {u:V} {sz:Nat} {es:List (List V)} (h:bp H u sz es):∃ rd,b6 H u=some (es,rd):=by
  rcases h with ⟨rfl,k,rfl⟩ | ⟨n,rfl,hn⟩
  · exact ⟨[],rfl⟩
  · cases es with
    | nil=>exact ⟨[],rfl⟩
    | cons e r =>
      refine ⟨[n],?_⟩
      rw[List.length_cons,D6 _ n 0 r.length sz sz _ hn (by simp),List.drop_zero,List.take_of_length_le (by simp)]
theorem dJ.step {H H' H1:View} {u u1:V} (h:dJ H H' u) (l:Left H' H1 u u1):dJ H H1 u1:=fun id hid=>by
  have h1:=h id hid
  have h2:=l id (by rw[h1.1]; exact hid) h1.2
  exact ⟨h2.1.trans h1.1,h2.2⟩
theorem dJ.put {H H':View} {u:V} {n:Nat} {o:bE} (h:dJ H H' u) (hn:H' n=.dead):dJ H (H'.set n o) u:=fun id hid=>by
  have h1:=h id hid
  have e:id≠n:=by rintro rfl; rw[h1.1] at hn; exact hid hn
  exact ⟨by simp[View.set,e,h1.1],h1.2⟩
theorem dJ.call {H H' H2:View} {u r:V} (h:dJ H H' u) (k:dJ H' H2 r):dJ H H2 u:=fun id hid=>by
  have h1:=h id hid
  have h2:=k id (by rw[h1.1]; exact hid)
  exact ⟨h2.1.trans h1.1,h1.2⟩
theorem wQ {l:List Int} {k:Nat} (h:k≤l.length):mI 1 (.bc (l.map fun x=>[gi x])) none (some (gi k))=some (.bc ((l.take k).map fun x=>[gi x]),.none,[]):=by
  simp[mI,bound,asNat,h,List.all_map,List.map_take]
end Gv
set_option linter.unusedSimpArgs false
namespace Gv
open Go
theorem e9 {P:Program} {t:TypeId} {d:TypeDesc} (hu:P.underlying t=some d) (hd:d=.string∨∃ k,d=.int k) (cs:Array Value) (off:Nat) {v:Value} (hv:cs[off]?=some v):bf P (part t cs off)=some v:=by
  have h0:bf P (isAgg t)=some false:=by
    rcases hd with rfl | ⟨k,rfl⟩
    all_goals simp only[isAgg,ba,cL hu,Option.bind_some]; rfl
  simp only[part,ba,h0,Option.bind_some,Bool.false_eq_true,if_false,hv]
  rfl
inductive fZ (P:Program) (d:Nat) (xs ys:Array Value):List Field→Bool→Prop
  | nil:fZ P d xs ys [] true
  | str (f:Field) (l:List Field) (c:Bool) (a b:ByteArray):(f.name≠ "_")→P.underlying f.type=some .string→xs[f.offset]?=some (.string a)→ys[f.offset]?=some (.string b)→fZ P d xs ys l c→fZ P d xs ys (f :: l) (a == b && c)
  | int (f:Field) (l:List Field) (c:Bool) (k:IntKind) (a b:Int):(f.name≠ "_")→P.underlying f.type=some (.int k)→xs[f.offset]?=some (.int k a)→ys[f.offset]?=some (.int k b)→fZ P d xs ys l c→fZ P d xs ys (f :: l) (a == b && c)
theorem fZ.forIn {P:Program} {d e:Nat} {xs ys:Array Value} {l:List Field} {c:Bool} (h:fZ P d xs ys l c) (hd:e=d+1) :
    bf P (forIn l ((none:Option Bool),()) fun f _ =>
        if f.name≠ "_" then do
          let a ← part f.type xs f.offset
          let b ← part f.type ys f.offset
          let e ← Op.equalIn e f.type a b
          if (!e)=true then pure (ForInStep.done (some false,())) else pure (ForInStep.yield (none,()))
        else pure (ForInStep.yield (none,())))=some (if c=true then (none,()) else (some false,())):=by
  subst hd
  induction h with
  | nil=>rfl
  | str f l c a b hn hu hx hy _ ih =>
    have he:bf P (Op.equalIn (d+1) f.type (.string a) (.string b))=some (a == b):=by
      simp only[Op.equalIn,ba,cL hu,Option.bind_some]; rfl
    rw[List.forIn_cons,ba,if_pos hn,ba,e9 hu (.inl rfl) xs _ hx,Option.bind_some,ba,e9 hu (.inl rfl) ys _ hy,Option.bind_some,ba,he,Option.bind_some]
    cases a == b with
    | false=>rfl
    | true=>exact ih
  | int f l c k a b hn hu hx hy _ ih =>
    have he:bf P (Op.equalIn (d+1) f.type (.int k a) (.int k b))=some (a == b):=by
      simp only[Op.equalIn,ba,cL hu,Option.bind_some]; rfl
    rw[List.forIn_cons,ba,if_pos hn,ba,e9 hu (.inr ⟨k,rfl⟩) xs _ hx,Option.bind_some,ba,e9 hu (.inr ⟨k,rfl⟩) ys _ hy,Option.bind_some,ba,he,Option.bind_some]
    cases a == b with
    | false=>rfl
    | true=>exact ih
theorem vF {P:Program} {t:TypeId} {fs:Array Field} {xs ys:Array Value} {c:Bool} (hu:P.underlying t=some (.struct fs)) (hs:P.stoodInHeld t=false) (h:fZ P 9998 xs ys fs.toList c) :
    bf P (Op.equal t (.agg xs) (.agg ys))=some c:=by
  rw[iA]
  rw[Op.equalIn,ba,cL hu,Option.bind_some]
  have hst:(bf P program)=some P:=rfl
  rw[ba,hst,Option.bind_some,hs]
  simp only[← Array.forIn_toList,Bool.false_eq_true,if_false]
  rw[ba,h.forIn (e:=9999) rfl,Option.bind_some]
  cases c <;> rfl
end Gv
set_option linter.unusedSimpArgs false
namespace Gv
open Go
def tt (hp:Array Obj) (cs:List Value) (vs:List V):Prop :=
  vs.length=cs.length∧∀ μ i,i < vs.length→aA (fun b=>b < hp.size) μ hp (vs.getD i .any) (cs.getD i undef)
def Wt {H:Type} (P:Program) (t:TypeId) (d:DataW H):Prop:=∀ n∈d.weights P t,n≤reachBytes
def uj (P:Program) (t:TypeId) {α:Type} (f:α→List V) (ok:α→Prop):Prop :=
  ∀ {H:Type} (enc:TypeId × Value→H) (w:World) (base:Nat) (sp:Nat→Bool) (held:Bool) (fuel:Nat) (cs:List Value) (x:DataW H × List MemPlace),
    DataW.trod enc P w base sp held fuel t cs=some x→Wt P t x.1→∃ a,ok a∧tt w.heap cs (f a)
theorem rX {hp:Array Obj} {c:Value} {v:V} (h:∀ μ,aA (fun b=>b < hp.size) μ hp v c):tt hp [c] [v]:=by
  refine ⟨rfl,fun μ i hi=>?_⟩
  match i,hi with
  | 0,_=>exact h μ
theorem I1 {P:Program} {t:TypeId} {k:IntKind} (ht:P.underlying t=some (.int k)):uj P t (fun n=>[.val (.int k n)]) (fun n=>(Lit.int k n).wf=true):=by
  intro H enc w base sp held fuel cs x h _
  obtain ⟨n,rfl,_,hw⟩:=DataW.trod_int ht h
  exact ⟨n,hw,rX fun μ=>.val _ rfl⟩
theorem zk {P:Program} {t:TypeId} (ht:P.underlying t=some .string):uj P t (fun s=>[.val (.string s)]) (fun _=>True):=by
  intro H enc w base sp held fuel cs x h _
  obtain ⟨s,rfl,_,_⟩:=DataW.trod_string ht h
  exact ⟨s,trivial,rX fun μ=>.val _ rfl⟩
theorem Bv {w:World} {base:Nat} {a:Addr} {n:Nat} {cs:List Value} (h:w.cells? base a n=some cs):cs.length=n∧∀ i,i < n→w.cell? (a.add i)=some (cs.getD i undef):=by
  obtain ⟨_,h2,h3⟩:=World.cells?_some h
  refine ⟨h2,fun i hi=>?_⟩
  rw[h3 i hi,List.getD_eq_getElem?_getD,List.getElem?_eq_getElem (by omega)]
  rfl
theorem F0 {w:World} {a:Addr} {v:Value} (h:w.cell? a=some v):a.spot=none∧a.block < w.heap.size:=by
  unfold World.cell? at h
  split at h
  · rename_i c _ _ hb
    split at h
    · simp at h
    · rename_i hs
      exact ⟨by simpa using hs,(Array.getElem?_eq_some_iff.1 hb).1⟩
  · simp at h
theorem EJ {H:Type} {P:Program} {e:TypeId} : ∀ {l:List (DataW H)},(∀ n∈DataW.weightsAll P e l,n≤reachBytes)→∀ d∈l,Wt P e d
  | [],_,d,hd=>by simp at hd
  | x :: l,h,d,hd=>by
    simp only[DataW.weightsAll,List.mem_append] at h
    rcases List.mem_cons.1 hd with rfl | hd
    · exact fun n hn=>h n (.inl hn)
    · exact EJ (fun n hn=>h n (.inr hn)) d hd
theorem GN {H:Type} {P:Program} {t e:TypeId} {elems spare:List (DataW H)} (ht:P.underlying t=some (.slice e)) (h:Wt P t (.slice elems spare)) :
    (elems.length+spare.length) * P.bytesOf e≤reachBytes∧∀ d∈elems,Wt P e d:=by
  unfold Wt at h
  unfold DataW.weights at h
  rw[ht] at h
  simp only[List.mem_cons,List.mem_append] at h
  exact ⟨h _ (.inl rfl),EJ fun n hn=>h n (.inr (.inl hn))⟩
theorem Fs {H:Type} {P:Program} {t:TypeId} {fs:Array Field} {parts:List (DataW H)} (ht:P.underlying t=some (.struct fs)) (h:Wt P t (.agg parts)) {j:Nat} {f:Field} {d:DataW H} (hf:fs[j]?=some f) (hd:parts[j]?=some d):Wt P f.type d:=by
  intro n hn
  refine h n ?_
  unfold DataW.weights
  rw[ht]
  exact DataW.weights_mem_each (j:=j) (t:=f.type) (by simp[hf]) hd n hn
theorem Db {α:Type} {φ:Nat→α→Prop} : ∀ (n:Nat),(∀ i,i < n→∃ a,φ i a)→∃ l:List α,l.length=n∧∀ i (hi:i < l.length),φ i l[i]
  | 0,_=>⟨[],rfl,fun i hi=>by simp at hi⟩
  | n+1,h=>by
    obtain ⟨l,hl,hφ⟩:=Db n fun i hi=>h i (by omega)
    obtain ⟨a,ha⟩:=h n (by omega)
    refine ⟨l ++ [a],by simp[hl],fun i hi=>?_⟩
    by_cases e:i < l.length
    · rw[List.getElem_append_left e]; exact hφ i e
    · have:i=n:=by simp at hi; omega
      subst this
      rw[List.getElem_append_right (by omega)]
      simp only[hl,Nat.sub_self,List.getElem_cons_zero]; exact ha
theorem rf {P:Program} {t e:TypeId} {α:Type} {f:α→List V} {ok:α→Prop} (ht:P.underlying t=some (.slice e)) (hc:0 < P.cellsOf e) (hb:0 < P.bytesOf e) (he:uj P e f ok) :
    uj P t (fun l:List α=>[.bc (l.map f)]) (fun l=>l.length < 4611686018427387904∧∀ a∈l,ok a):=by
  intro H enc w base sp held fuel cs x h hw
  rcases DataW.trod_slice ht h with ⟨rfl,rfl⟩ | ⟨a,len,cap,elems,rest,n,_,rfl,rfl,hba,hl,hm,hlen,hel,_,_⟩
  · exact ⟨[],⟨by simp,by simp⟩,rX fun μ=>.eZ none 0 (by simp)⟩
  obtain ⟨hw1,hw2⟩:=GN ht hw
  simp only[List.length_map] at hw1
  have hlt:len < 4611686018427387904:=by
    have h1:len * 1≤(elems.length+rest.length) * P.bytesOf e:=Nat.mul_le_mul (by omega) hb
    unfold reachBytes at hw1
    omega
  have each:∀ i,i < len→∃ y,ok y∧∃ ci,w.cells? base (a.add (i * P.cellsOf e)) (P.cellsOf e)=some ci∧tt w.heap ci (f y):=by
    intro i hi
    have h1:=hel i hi
    have h2:elems[i]?=some (elems[i]'(by omega)):=List.getElem?_eq_getElem (by omega)
    have hmem:elems[i]'(by omega)∈elems:=List.getElem_mem _
    rw[h2,Option.bind_eq_some_iff] at h1
    obtain ⟨ci,h3,h4⟩:=h1
    obtain ⟨y,h5,h6⟩:=he enc w base sp held n ci _ h4 (hw2 _ (List.mem_map.2 ⟨_,hmem,rfl⟩))
    exact ⟨y,h5,ci,h3,h6⟩
  obtain ⟨l,hll,hφ⟩:=Db len each
  subst hll
  refine ⟨l,⟨hlt,fun y hy=>?_⟩,rX fun μ=>?_⟩
  · obtain ⟨i,hi,rfl⟩:=List.getElem_of_mem hy
    exact (hφ i hi).1
  by_cases h0:l=[]
  · subst h0
    exact .eZ (some a) cap (by simp)
  have hpos:0 < l.length:=List.length_pos_iff.2 h0
  have hcell:∀ i j,i < l.length→j < P.cellsOf e→∃ c,cellAt w.heap a.block (a.off+i * P.cellsOf e+j)=some c∧a.block < w.heap.size∧(i=0→j=0→a.spot=none)∧∀ (hi:i < l.length),aA (fun b=>b < w.heap.size) μ w.heap ((f l[i]).getD j .any) c:=by
    intro i j hi hj
    obtain ⟨_,ci,h1,h2⟩:=hφ i hi
    obtain ⟨h3,h4⟩:=Bv h1
    have h5:=h4 j hj
    have h6:=F0 h5
    have hbk:((a.add (i * P.cellsOf e)).add j).block=a.block:=by simp only[Addr.add]; split <;> split <;> rfl
    have hof:((a.add (i * P.cellsOf e)).add j).off=a.off+i * P.cellsOf e+j:=by
      simp only[Addr.add]; split <;> split <;> simp_all
    refine ⟨ci.getD j undef,?_,by rw[← hbk]; exact h6.2,?_,fun _=>?_⟩
    · rw[← hof,← hbk,← nX]
      rw[← h5]
      congr 1
      generalize (a.add (i * P.cellsOf e)).add j=b at h6
      cases b
      simp at h6 ⊢
      exact h6.1.symm
    · rintro rfl rfl
      simp[Addr.add] at h6
      exact h6.1
    · exact h2.2 μ j (by rw[h2.1,h3]; exact hj)
  obtain ⟨_,_,hz,hs,_⟩:=hcell 0 0 hpos hc
  have ha:a=⟨a.block,a.off,none⟩:=by
    cases a; simp at hs ⊢; exact hs
  have hlf:∀ i,i < l.length→(f (l[i]?.getD (l[0]'hpos))).length=P.cellsOf e:=fun i hi=>by
    obtain ⟨_,ci,h1,h2⟩:=hφ i hi
    rw[List.getElem?_eq_getElem hi,Option.getD_some,h2.1,(Bv h1).1]
  have hgd:∀ i (hi:i < l.length),(l.map f).getD i []=f l[i]:=fun i hi=>by simp[List.getD_eq_getElem?_getD,hi]
  have hcl:(l.map f).length=l.length:=by simp
  have:=aA.bc (Z:=fun b=>b < w.heap.size) (μ:=μ) (hp:=w.heap) (l.map f) a.block a.off (P.cellsOf e) cap (fun i j=>(cellAt w.heap a.block (a.off+i * P.cellsOf e+j)).getD undef) hz (by rw[hcl]; exact hl)
    (fun i hi=>by
      rw[hcl] at hi
      have:=hlf i hi
      rw[List.getElem?_eq_getElem hi,Option.getD_some] at this
      rw[hgd i hi]; exact this)
    (fun i j hi hj=>by
      rw[hcl] at hi
      obtain ⟨c,h1,_⟩:=hcell i j hi hj
      rw[h1]; rfl)
    (fun i j hi hj=>by
      rw[hcl] at hi
      obtain ⟨c,h1,_,_,h2⟩:=hcell i j hi hj
      rw[h1,hgd i hi]; exact h2 hi)
  rw[hcl,← ha] at this
  exact this
theorem uy {P:Program} {t:TypeId} {fs:Array Field} (ht:P.underlying t=some (.struct fs)) (hf:∀ (i:Nat) (f:Field),fs[i]?=some f→f.offset=i∧P.cellsOf f.type=1) (hn:P.cellsOf t=fs.size)
    {H:Type} {enc:TypeId × Value→H} {w:World} {base:Nat} {sp:Nat→Bool} {held:Bool} {fuel:Nat} {cs:List Value} {x:DataW H × List MemPlace} (h:DataW.trod enc P w base sp held fuel t cs=some x) (hw:Wt P t x.1) :
    cs.length=fs.size∧∀ (i:Nat) (f:Field),fs[i]?=some f→∀ {α:Type} {g:α→List V} {ok:α→Prop},uj P f.type g ok→∃ a,ok a∧tt w.heap [cs.getD i undef] (g a):=by
  obtain ⟨xs,n,rfl,rfl,hl,hlen,hx⟩:=DataW.trod_struct ht h
  refine ⟨by rw[hl,hn],fun i f hi α g ok hr=>?_⟩
  obtain ⟨h1,h2⟩:=hf i f hi
  have hi2:i < fs.size:=(Array.getElem?_eq_some_iff.1 hi).1
  have h3:=hx i f hi
  have h4:xs[i]?=some (xs[i]'(by omega)):=List.getElem?_eq_getElem (by omega)
  rw[h4,h1,h2] at h3
  have h5:(cs.drop i).take 1=[cs.getD i undef]:=by
    rw[List.getD_eq_getElem?_getD,List.getElem?_eq_getElem (by omega),List.drop_eq_getElem_cons (by omega)]
    rfl
  rw[h5] at h3
  exact hr enc w base sp held n _ _ h3 (Fs ht hw hi (by simp[h4]))
theorem eV {hp:Array Obj} {c:Value} {cs:List Value} {v:V} {vs:List V} (h:tt hp [c] [v]) (k:tt hp cs vs):tt hp (c :: cs) (v :: vs):=by
  refine ⟨by simp[k.1],fun μ i hi=>?_⟩
  cases i with
  | zero=>exact h.2 μ 0 (by simp)
  | succ i=>exact k.2 μ i (by simpa using hi)
theorem vz {hp:Array Obj} : tt hp [] []:=⟨rfl,fun μ i hi=>by simp at hi⟩
end Gv
set_option linter.unusedSimpArgs false
set_option maxRecDepth 100000
namespace Gv
open Go Go.Proofs
theorem IJ {n:Int} (h:(Lit.int .i64 n).wf=true):bF n:=by
  simp only[Lit.wf,Bool.and_eq_true,decide_eq_true_eq] at h
  exact h
theorem lT:uj Tryz.prog 3 (fun n=>[gi n]) bF:=fun enc w base sp held fuel cs x h hw=>by
  obtain ⟨n,h1,h2⟩:=I1 Tryz.underlying3 enc w base sp held fuel cs x h hw
  exact ⟨n,IJ h1,h2⟩
theorem qk:uj Tryz.prog 27 (fun l:List Int=>[encI l]) (fun l=>aP l∧∀ x∈l,bF x) :=
  rf Tryz.underlying27 (of_decide_eq_true (by kernel_rfl)) (of_decide_eq_true (by kernel_rfl)) lT
theorem Ej:uj Tryz.prog 23 (fun l:List ByteArray=>[encS l]) (fun l=>aP l∧∀ x∈l,True) :=
  rf Tryz.underlying23 (of_decide_eq_true (by kernel_rfl)) (of_decide_eq_true (by kernel_rfl)) (zk Tryz.underlying9)
theorem JW {cs:List Value} (h:cs.length=3):cs=[cs.getD 0 undef,cs.getD 1 undef,cs.getD 2 undef]:=by
  match cs,h with
  | [a,b,c],_=>rfl
theorem Km {cs:List Value} (h:cs.length=4):cs=[cs.getD 0 undef,cs.getD 1 undef,cs.getD 2 undef,cs.getD 3 undef]:=by
  match cs,h with
  | [a,b,c,d],_=>rfl
theorem Ie:uj Tryz.prog 81 ch (fun t=>bF t.level∧bF t.assoc):=fun enc w base sp held fuel cs x h hw=>by
  obtain ⟨hl,hf⟩:=uy Tryz.underlying81 (by
    intro i f hi
    match i,hi with
    | 0,hi=>simp at hi; subst hi; exact ⟨rfl,by kernel_rfl⟩
    | 1,hi=>simp at hi; subst hi; exact ⟨rfl,by kernel_rfl⟩
    | 2,hi=>simp at hi; subst hi; exact ⟨rfl,by kernel_rfl⟩
    | n+3,hi=>simp at hi) (by kernel_rfl) h hw
  obtain ⟨a,_,h1⟩:=hf 0 _ rfl (zk Tryz.underlying9)
  obtain ⟨b,h2,h3⟩:=hf 1 _ rfl lT
  obtain ⟨c,h4,h5⟩:=hf 2 _ rfl lT
  refine ⟨⟨a,b,c⟩,⟨h2,h4⟩,?_⟩
  rw[JW hl]
  exact eV h1 (eV h3 (eV h5 vz))
theorem IK:uj Tryz.prog 59 aJ (fun r=>bF r.left∧bF r.prec∧aP r.right∧∀ x∈r.right,bF x):=fun enc w base sp held fuel cs x h hw=>by
  obtain ⟨hl,hf⟩:=uy Tryz.underlying59 (by
    intro i f hi
    match i,hi with
    | 0,hi=>simp at hi; subst hi; exact ⟨rfl,by kernel_rfl⟩
    | 1,hi=>simp at hi; subst hi; exact ⟨rfl,by kernel_rfl⟩
    | 2,hi=>simp at hi; subst hi; exact ⟨rfl,by kernel_rfl⟩
    | n+3,hi=>simp at hi) (by kernel_rfl) h hw
  obtain ⟨a,h0,h1⟩:=hf 0 _ rfl lT
  obtain ⟨b,h2,h3⟩:=hf 1 _ rfl qk
  obtain ⟨c,h4,h5⟩:=hf 2 _ rfl lT
  refine ⟨⟨a,b,c⟩,⟨h0,h4,h2.1,h2.2⟩,?_⟩
  rw[JW hl]
  exact eV h1 (eV h3 (eV h5 vz))
theorem uM:uj Tryz.prog 26 ao av.Ok:=fun enc w base sp held fuel cs x h hw=>by
  obtain ⟨hl,hf⟩:=uy Tryz.underlying26 (by
    intro i f hi
    match i,hi with
    | 0,hi=>simp at hi; subst hi; exact ⟨rfl,by kernel_rfl⟩
    | 1,hi=>simp at hi; subst hi; exact ⟨rfl,by kernel_rfl⟩
    | 2,hi=>simp at hi; subst hi; exact ⟨rfl,by kernel_rfl⟩
    | 3,hi=>simp at hi; subst hi; exact ⟨rfl,by kernel_rfl⟩
    | n+4,hi=>simp at hi) (by kernel_rfl) h hw
  obtain ⟨a,h0,h1⟩:=hf 0 _ rfl (rf Tryz.underlying22 (of_decide_eq_true (by kernel_rfl)) (of_decide_eq_true (by kernel_rfl)) Ie)
  obtain ⟨b,h2,h3⟩:=hf 1 _ rfl Ej
  obtain ⟨c,h4,h5⟩:=hf 2 _ rfl (rf Tryz.underlying24 (of_decide_eq_true (by kernel_rfl)) (of_decide_eq_true (by kernel_rfl)) IK)
  obtain ⟨d,h6,h7⟩:=hf 3 _ rfl lT
  refine ⟨⟨a,b,c,d⟩,⟨h0.1,h2.1,h4.1,h6,h0.2,h4.2⟩,?_⟩
  rw[Km hl]
  exact eV h1 (eV h3 (eV h5 (eV h7 vz)))
end Gv
set_option linter.unusedSimpArgs false
set_option maxRecDepth 100000
namespace Gv
open Go Go.Proofs
def po:SC :=
  .seq (al [bb 44 .lss 43 42]) <|
  .seq (.cond (.tmp 44) (.skip) (.exit 0)) <|
  .seq (.block 1 (.seq (al [aa 45 43,aN 46 3 41 43,aM 47 3 46,((some 11),.op (.alloc [(.val (.int .i64 0)),(.emp 1),(.val (.int .i64 0))])),aa 10 45,(none,.op (.store 3 (.tmp 11) (.tmp 47)))]) <|
  .seq (.seq (.region false [⟨none,[aa 48 6,ar 49 0 11,an 50 49,aN 51 1 48 50,an 52 51,bL 53 52,aa 54 53]⟩,⟨(some (54,false)),[aM 55 3 11,aa 56 5,aG 57 75 [55,56],bL 58 57]⟩,⟨none,[bt 59 54 58]⟩]) <|
  .cond (.tmp 59) (.exit 1) (.skip)) <|
  .seq (al [aa 60 7,aa 61 10,((some 62),.op (.bH 1 1 [(.val (.int .i64 0))] [(0,(.tmp 61))])),((some 63),.op (.app 1 8 (.tmp 60) (.tmp 62))),aa 7 63]) <|
  .seq (al [aa 65 9,ar 66 0 11,an 67 66,((some 68),.op (.bm (.lookup 108 (.tmp 65) (.tmp 67) true) 110)),aa 64 68,bQ 69 0 64,bQ 70 1 64,aa 12 69,aa 13 70]) <|
  .seq (al [aa 71 13,bL 72 71]) <|
  .cond (.tmp 72) (.seq (al [aa 73 9,ar 74 0 11,an 75 74,ar 76 1 8,an 77 76,aL 78 77,(none,.op (.bm (.mapUpdate 108 (.tmp 73) (.tmp 75) (.tmp 78)) 0))]) <|
  .region false [⟨none,[ar 79 1 8,an 80 79,ar 81 1 1,an 82 81,ar 83 0 11,an 84 83,aN 85 1 82 84,an 86 85,((some 87),.op (.bH 1 1 [(.val (.string ⟨#[]⟩))] [(0,(.tmp 86))])),((some 88),.op (.app 1 16 (.tmp 80) (.tmp 87))),ar 89 1 8,(none,.op (.store 1 (.tmp 89) (.tmp 88)))]⟩]) (.skip))) <|
  al [ay 90 .add 43 1,aa 43 90]
def pF:SC :=
  .seq (al [bb 116 .lss 115 114]) <|
  .seq (.cond (.tmp 116) (.skip) (.exit 4)) <|
  .seq (.block 5 (.seq (al [aa 117 115,aN 118 1 113 115,an 119 118,aa 18 117,aa 19 119]) <|
  .seq (al [aa 120 19,ay 121 .lss 120 0]) <|
  .cond (.tmp 121) (al [ar 122 1 17,an 123 122,aa 124 18,aa 125 9,aa 126 19,((some 127),.op (.arith .sub (.val (.val (.int .i64 (-1)))) (.tmp 126))),((some 128),.op (.bm (.lookup 108 (.tmp 125) (.tmp 127) false) 3)),((some 129),.op (.arith .sub (.val (.val (.int .i64 (-1)))) (.tmp 128))),aN 130 1 123 124,(none,.op (.store 1 (.tmp 130) (.tmp 129)))]) (.skip))) <|
  al [ay 131 .add 115 1,aa 115 131]
def ph:SC :=
  .seq (al [bb 94 .lss 93 92]) <|
  .seq (.cond (.tmp 94) (.skip) (.exit 2)) <|
  .seq (.block 3 (.seq (al [aN 95 1 91 93,an 96 95,aa 15 96]) <|
  .seq (al [ar 97 2 1,an 98 97,aa 99 15,aN 100 3 98 99,aM 101 3 100,((some 16),.op (.alloc [(.val (.int .i64 0)),(.emp 1),(.val (.int .i64 0))])),(none,.op (.store 3 (.tmp 16) (.tmp 101)))]) <|
  .seq (.region true [⟨none,[aa 102 9,ar 103 0 16,an 104 103,((some 105),.op (.bm (.lookup 108 (.tmp 102) (.tmp 104) false) 3)),ar 106 1 16,an 107 106,aG 108 76 [107],ar 109 2 16,an 110 109,((some 111),.op (.build [(.val (.int .i64 0)),(.emp 1),(.val (.int .i64 0))] [(0,1,(.tmp 105)),(1,1,(.tmp 108)),(2,1,(.tmp 110))])),((some 17),.op (.alloc [(.val (.int .i64 0)),(.emp 1),(.val (.int .i64 0))])),(none,.op (.store 3 (.tmp 17) (.tmp 111)))]⟩]) <|
  .seq (.seq (al [ar 112 1 17,an 113 112,aL 114 113,aH 115 0]) <|
  .block 4 (.loop pF)) <|
  al [ar 132 2 8,an 133 132,aM 134 3 17,((some 135),.op (.bH 1 3 [(.val (.int .i64 0)),(.emp 1),(.val (.int .i64 0))] [(0,(.tmp 134))])),((some 136),.op (.app 3 40 (.tmp 133) (.tmp 135))),ar 137 2 8,(none,.op (.store 1 (.tmp 137) (.tmp 136)))])) <|
  al [ay 138 .add 93 1,aa 93 138]
def so:SF:=⟨.seq (al [cE 1 0,((some 2),.op (.alloc [(.emp 1),(.emp 1),(.emp 1),(.val (.int .i64 0))])),((some 3),.op (.bu (.val (.emp 1)))),aH 4 0]) <|
  .seq (.seq (al [aM 20 4 1,aG 21 38 [20],bL 22 21]) <|
  .cond (.tmp 22) (.seq (al [((some 23),.op (.build [(.emp 1),(.emp 1),(.emp 1),(.val (.int .i64 0))] [])),(none,.op (.store 4 (.tmp 2) (.tmp 23))),((some 3),.op (.bu (.val (.emp 1)))),aH 4 1]) <|
  .ret) (.skip)) <|
  .seq (.region true [⟨none,[aM 24 4 1,aG 25 72 [24],aM 26 4 1,aG 27 73 [26],aa 5 25,aa 6 27]⟩]) <|
  .seq (.seq (al [aa 28 5,ar 29 3 1,an 30 29,aN 31 1 28 30,an 32 31,bL 33 32]) <|
  .cond (.tmp 33) (.seq (al [((some 34),.op (.build [(.emp 1),(.emp 1),(.emp 1),(.val (.int .i64 0))] [])),(none,.op (.store 4 (.tmp 2) (.tmp 34))),((some 3),.op (.bu (.val (.emp 1)))),aH 4 9]) <|
  .ret) (.skip)) <|
  .seq (al [((some 7),.op (.bu (.val (.emp 1))))]) <|
  .seq (al [ar 35 0 1,an 36 35,aG 37 74 [36],((some 38),.op (.build [(.emp 1),(.emp 1),(.emp 1),(.val (.int .i64 0))] [(0,1,(.tmp 37))])),((some 8),.op (.alloc [(.emp 1),(.emp 1),(.emp 1),(.val (.int .i64 0))])),(none,.op (.store 4 (.tmp 8) (.tmp 38)))]) <|
  .seq (al [((some 39),.op (.pa)),aa 9 39]) <|
  .seq (.seq (al [ar 40 2 1,an 41 40,aL 42 41,aH 43 0]) <|
  .block 0 (.loop po)) <|
  .seq (.seq (al [aa 91 7,aL 92 91,aH 93 0]) <|
  .block 2 (.loop ph)) <|
  .seq (al [aa 139 9,ar 140 3 1,an 141 140,((some 142),.op (.bm (.lookup 108 (.tmp 139) (.tmp 141) false) 3)),ar 143 3 8,(none,.op (.store 1 (.tmp 143) (.tmp 142)))]) <|
  .seq (al [aM 144 4 8,aa 145 7,(none,.op (.store 4 (.tmp 2) (.tmp 144))),aa 3 145,aH 4 0]) <|
  .ret,
  [.cell 2 (some 4),.tmp 3,.tmp 4],146⟩
theorem vQ:aX Tryz.prog 43 [1]=some so:=by kernel_rfl
abbrev uc (m:cw Int):List (V × V × Nat):=dE (Value.int .i64) m
def Ja (g:av) (p q:List Bool) (b2 b8 b9:Nat) (u0:V) (i:Nat) (T:Env) (H:View):Prop :=
  (∃ u1 u3:V,T 7=u3∧(∀ x∈bw p q (g.rules.take i),0≤x∧x < g.au.length)∧(bw p q (g.rules.take i)).length≤i ∧
    bD H [(.sl b8 0 1 4,4,[[u0,u1,.emp 1,gi 0]]),(u3,1,bI (bO p q (g.rules.take i) 0)),
      (u1,1,gI ((bw p q (g.rules.take i)).map fun x=>g.au.getD x.toNat ⟨#[]⟩)),(u0,3,g.aC.map ch),(.sl b2 0 1 4,4,[[.emp 1,.emp 1,.emp 1,gi 0]])] ∧
    ∃ m c,H b9=.map (uc m) c∧kc gi (gh (bw p q (g.rules.take i)) 0) m) ∧
  T 1=.aK (ao g) 0∧T 2=.ptr b2 0 0∧T 5=bk p∧T 6=bk q∧T 8=.ptr b8 0 0∧T 9=.mp b9∧T 41=.bc (g.rules.map aJ)∧T 42=gi g.rules.length∧T 43=gi i
theorem yl {α:Type} {x s:α} : ∀ {a d:List α} {k:Nat},a.length=k→(a ++ s :: d).set k x=a ++ x :: d
  | [],d,k,h=>by simp at h; subst h; rfl
  | y :: a,d,k,h=>by
    cases k with
    | zero=>simp at h
    | succ k=>simp only[List.cons_append,List.set_cons_succ]; rw[yl (by simpa using h)]
def J8 (g:av) (p q:List Bool) (b2 b8 b9:Nat) (u0 u1 u3:V) (o kl:List Int) (mm:cw Int) (cc:Nat) (i:Nat) (T:Env) (H:View):Prop :=
  (∃ (u2:V) (bs:uI),bs.map (·.2)=((g.rules.filter (bq p q)).take i).map (aZ (cK o)) ∧
    bD H ((.sl b8 0 1 4,4,[[u0,u1,u2,gi 0]]) :: (u3,1,bI kl) ::
      (u1,1,gI (o.map fun x=>g.au.getD x.toNat ⟨#[]⟩)) :: (u0,3,g.aC.map ch) :: (u2,3,eE bs) :: (.sl b2 0 1 4,4,[[.emp 1,.emp 1,.emp 1,gi 0]]) :: jq bs) ∧
    H b9=.map (uc mm) cc) ∧
  T 1=.aK (ao g) 0∧T 2=.ptr b2 0 0∧T 7=u3∧T 8=.ptr b8 0 0∧T 9=.mp b9∧T 91=u3∧T 92=gi kl.length∧T 93=gi i
def J3 (g:av) (b2 b8 b9 b16 b17:Nat) (u3 v:V) (o kl:List Int) (mm:cw Int) (cc:Nat) (r:aT) (L:List eR) (i k:Nat) (T:Env) (H:View):Prop :=
  bD H ((.sl b17 0 1 3,3,[[gi (cK o r.left),v,gi r.prec]]) :: (v,1,bI ((aZ (cK o) r).right.take k ++ r.right.drop k)) :: (.sl b16 0 1 3,3,[aJ r]) :: L) ∧
  H b9=.map (uc mm) cc∧T 1=.aK (ao g) 0∧T 2=.ptr b2 0 0∧T 7=u3∧T 8=.ptr b8 0 0∧T 9=.mp b9∧T 91=u3∧T 92=gi kl.length∧T 93=gi i∧T 17=.ptr b17 0 0∧T 113=v∧T 114=gi r.right.length∧T 115=gi k
set_option maxHeartbeats 8000000 in
theorem BL (g:av) (hg:g.Ok) (hs:g.Small):cx Tryz.prog 43 [.agg (ao g)] (sg (if aR g=true then
    if (aw g true).getD g.start.toNat false=true then (eO g (cK (bw (aw g true) (aQ g) g.rules)) (aw g true) (aQ g),bO (aw g true) (aQ g) g.rules 0,0)
    else (u6,[],9)
  else (u6,[],1))):=by
  refine cx.of (fk g) ?_
  refine aD.of mixed vQ ?_
  simp (disch:=omega) only [↓wr,↓reduceIte,wq,ai,ah,ak,ae,af,ag,aj,isNil,Nat.reduceEqDiff,Nat.reduceAdd,Nat.reduceLT,Nat.reduceLeDiff,Int.reduceNeg,Int.reduceToNat,reduceCtorEq,so,ao,encS]
  intro b2
  try simp (disch:=omega) only [↓wr,↓reduceIte,wq,ai,ah,ak,ae,af,ag,aj,isNil,Nat.reduceEqDiff,Nat.reduceAdd,Nat.reduceLT,Nat.reduceLeDiff,Int.reduceNeg,Int.reduceToNat,reduceCtorEq,ao,encS]
  refine az.pure (jV g hg hs.names) (by kernel_rfl) ?_
  repeat' (first | (refine aq.dec (fun _=>?_) (fun _=>?_)) | (refine aq.eq (fun _=>?_) (fun _=>?_)) | (refine aq.ne (fun _=>?_) (fun _=>?_)) | (refine aq.split (fun _=>?_) (fun _=>?_)) | (simp (disch:=omega) only [↓wr,↓reduceIte,wq,ai,ah,ak,ae,af,ag,aj,isNil,Nat.reduceEqDiff,Nat.reduceAdd,Nat.reduceLT,Nat.reduceLeDiff,Int.reduceNeg,Int.reduceToNat,reduceCtorEq,ao,encS,set_set]))
  · rename_i hr
    rw[if_pos hr]
    refine az.pure (qi g hg hs).pure (by kernel_rfl) ?_
    simp (disch:=omega) only [↓wr,↓reduceIte,wq,ai,ah,ak,ae,af,ag,aj,isNil,Nat.reduceEqDiff,Nat.reduceAdd,Nat.reduceLT,Nat.reduceLeDiff,Int.reduceNeg,Int.reduceToNat,reduceCtorEq,ao,encS]
    refine az.pure (zF g hg hs).pure (by kernel_rfl) ?_
    have hf:=aO hr
    have h3:=hf.dS
    have h4:=hf.start
    have hpl:=eT hr true
    have hql:=l0 hr
    generalize aw g true=p at hpl ⊢
    generalize aQ g=q at hql ⊢
    have hps:p[g.start.toNat]?=some (p[g.start.toNat]'(by omega)):=List.getElem?_eq_getElem (by omega)
    have hpd:p.getD g.start.toNat false=p[g.start.toNat]'(by omega):=by simp[List.getD_eq_getElem?_getD,hps]
    generalize p[g.start.toNat]'(by omega)=s at hps hpd
    rw[hpd]
    simp (disch:=omega) only [↓wr,↓reduceIte,wq,ai,ah,ak,ae,af,ag,aj,isNil,Nat.reduceEqDiff,Nat.reduceAdd,Nat.reduceLT,Nat.reduceLeDiff,Int.reduceNeg,Int.reduceToNat,reduceCtorEq,ao,encS,bk,List.getElem?_map,hps]
    cases s with
    | false =>
      simp (disch:=omega) only [↓wr,↓reduceIte,wq,ai,ah,ak,ae,af,ag,aj,isNil,Nat.reduceEqDiff,Nat.reduceAdd,Nat.reduceLT,Nat.reduceLeDiff,Int.reduceNeg,Int.reduceToNat,reduceCtorEq,ao,encS,set_set]
      rintro h' hh
      exact rn
    | true =>
      simp (disch:=omega) only [↓wr,↓reduceIte,wq,ai,ah,ak,ae,af,ag,aj,isNil,Nat.reduceEqDiff,Nat.reduceAdd,Nat.reduceLT,Nat.reduceLeDiff,Int.reduceNeg,Int.reduceToNat,reduceCtorEq,ao,encS,set_set]
      have hN:=hf.au
      have hN1:=hf.nN
      have hT:=hf.aC
      have hR:=hf.rules
      refine az.ez ((Fe g.aC (by omega) _).mono ?_)
      rintro u0 H1 ⟨hu0,hfr⟩
      have ho1:=(bD.nil.new (H:=fun _=>bE.dead) (n:=b2) rfl 4 [[.emp 1,.emp 1,.emp 1,gi 0]]).Jf hu0 hfr
      have c0:=ho1.head.cells
      have k0:=ho1.head.ld
      simp (disch:=omega) only [↓wr,↓reduceIte,wq,ai,ah,ak,ae,af,ag,aj,isNil,Nat.reduceEqDiff,Nat.reduceAdd,Nat.reduceLT,Nat.reduceLeDiff,Int.reduceNeg,Int.reduceToNat,reduceCtorEq,ao,encS,c0,k0]
      intro b8 hb8
      have ho2:=ho1.new hb8 4 [[u0,.emp 1,.emp 1,gi 0]]
      try simp (disch:=omega) only [↓wr,↓reduceIte,wq,ai,ah,ak,ae,af,ag,aj,isNil,Nat.reduceEqDiff,Nat.reduceAdd,Nat.reduceLT,Nat.reduceLeDiff,Int.reduceNeg,Int.reduceToNat,reduceCtorEq,ao,encS,c0,k0,set_set]
      intro b9 hb9
      have hb98:=(bJ hb9 bM).1
      have hb9:=(bJ (bJ hb9 bM).2 bM).2
      have ho3:=(((ho2.fresh (n:=b9) (o:=.map [] 0) (by simp only[View.set,if_neg hb98]; exact hb9)).emp (k:=1) (sz:=1)).emp (k:=1) (sz:=1)).perm DG.symm
      try simp (disch:=omega) only [↓wr,↓reduceIte,wq,ai,ah,ak,ae,af,ag,aj,isNil,Nat.reduceEqDiff,Nat.reduceAdd,Nat.reduceLT,Nat.reduceLeDiff,Int.reduceNeg,Int.reduceToNat,reduceCtorEq,ao,encS,c0,k0,set_set]
      refine bo.up g.rules.length (Ja g p q b2 b8 b9 u0) ?_ ?_
      · refine ⟨⟨.emp 1,.emp 1,rfl,by simp[bw],by simp[bw],by rw[set_set]; exact ho3,[],0,by simp[View.set,dE],trivial⟩,rfl,rfl,rfl,rfl,rfl,rfl,rfl,rfl,rfl⟩
      clear ho1 ho2 ho3 hb8 hb9 hb98
      rintro i k T H2 hk ⟨⟨u1,u3,t7,hin,holen,ho,mm,cc,h9,hm9⟩,t1,t2,t5,t6,t8,t9,t41,t42,t43⟩
      simp (disch:=omega) only [↓wr,↓reduceIte,wq,ai,ah,ak,ae,af,ag,aj,isNil,Nat.reduceEqDiff,Nat.reduceAdd,Nat.reduceLT,Nat.reduceLeDiff,Int.reduceNeg,Int.reduceToNat,reduceCtorEq,po,t1,t2,t5,t6,t7,t8,t9,t41,t42,t43,ao]
      refine aq.dec (fun hc=>?_) (fun hc=>?_)
      · have hg2:g.rules[i]?=some (g.rules[i]'(by omega)):=List.getElem?_eq_getElem (by omega)
        have hmem:g.rules[i]'(by omega)∈g.rules:=List.getElem_mem _
        have htk:g.rules.take (i+1)=g.rules.take i ++ [g.rules[i]'(by omega)]:=by rw[List.take_add_one,hg2]; rfl
        generalize g.rules[i]'(by omega)=r at hg2 hmem htk
        obtain ⟨hl1,hl2,hl3,hr6,hsy⟩:=hf.oF hg hmem
        have hqs:q[r.left.toNat]?=some (q[r.left.toNat]'(by omega)):=List.getElem?_eq_getElem (by omega)
        have hqd:q.getD r.left.toNat false=q[r.left.toNat]'(by omega):=by simp[List.getD_eq_getElem?_getD,hqs]
        generalize q[r.left.toNat]'(by omega)=qs at hqs hqd
        simp (disch:=omega) only [↓wr,↓reduceIte,wq,ai,ah,ak,ae,af,ag,aj,isNil,Nat.reduceEqDiff,Nat.reduceAdd,Nat.reduceLT,Nat.reduceLeDiff,Int.reduceNeg,Int.reduceToNat,reduceCtorEq,t1,t2,t5,t6,t7,t8,t9,t41,t42,t43,aJ,encI,List.getElem?_map,hg2]
        intro b11 hb11
        have hoA:=ho.new hb11 3 [aJ r]
        have n911:b9≠b11:=by rintro rfl; rw[h9] at hb11; simp at hb11
        try simp (disch:=omega) only [↓wr,↓reduceIte,wq,ai,ah,ak,ae,af,ag,aj,isNil,Nat.reduceEqDiff,Nat.reduceAdd,Nat.reduceLT,Nat.reduceLeDiff,Int.reduceNeg,Int.reduceToNat,reduceCtorEq,t1,t2,t5,t6,t7,t8,t9,t41,t42,t43,aJ,encI,bk,List.getElem?_map,hqs,set_set]
        have hskip:∀ (T2:Env) (H':View),bq p q r=false→H'=H2.set b11 (.arr 3 [aJ r])→T2 7=u3→T2 1=.aK (ao g) 0→T2 2=.ptr b2 0 0→T2 5=bk p→T2 6=bk q→T2 8=.ptr b8 0 0→T2 9=.mp b9→T2 41=.bc (g.rules.map aJ)→T2 42=gi g.rules.length→T2 43=gi ((i:Int)+1) →
            ∃ k',k' < k∧yB g.rules.length k' (Ja g p q b2 b8 b9 u0) T2 H':=by
          intro T2 H' hkr hH' a7 a1 a2 a5 a6 a8 a9 a41 a42 a43
          have e1:bw p q (g.rules.take (i+1))=bw p q (g.rules.take i):=by rw[htk,o6,if_neg (by simp[hkr])]
          have e2:bO p q (g.rules.take (i+1)) 0=bO p q (g.rules.take i) 0:=by rw[htk,gX]; simp[bO,hkr]
          refine aV hk (by omega) ⟨⟨u1,u3,a7,by rw[e1]; exact hin,by rw[e1]; omega,by rw[e1,e2,hH']; exact hoA.tail,mm,cc,by rw[hH']; simp[View.set,n911,h9],by rw[e1]; exact hm9⟩,a1,a2,a5,a6,a8,a9,a41,a42,by rw[a43]; rfl⟩
        cases qs with
        | false =>
          simp (disch:=omega) only [↓wr,↓reduceIte,wq,ai,ah,ak,ae,af,ag,aj,isNil,Nat.reduceEqDiff,Nat.reduceAdd,Nat.reduceLT,Nat.reduceLeDiff,Int.reduceNeg,Int.reduceToNat,reduceCtorEq,t1,t2,t5,t6,t7,t8,t9,t41,t42,t43]
          refine hskip _ _ (by rw[bq,hqd]; rfl) ?_ ?_ ?_ ?_ ?_ ?_ ?_ ?_ ?_ ?_ ?_
          all_goals first | exact t7 | exact t1 | exact t2 | exact t5 | exact t6 | exact t8 | exact t9 | exact t41 | exact t42 | rfl | (rw[set_set]; rfl)
        | true =>
          simp (disch:=omega) only [↓wr,↓reduceIte,wq,ai,ah,ak,ae,af,ag,aj,isNil,Nat.reduceEqDiff,Nat.reduceAdd,Nat.reduceLT,Nat.reduceLeDiff,Int.reduceNeg,Int.reduceToNat,reduceCtorEq,t1,t2,t5,t6,t7,t8,t9,t41,t42,t43,aJ,encI,bk]
          refine az.pure (pH r p (hg.bj r hmem).2.2.1 (fun s hs'=>⟨(hsy s hs').1,fun h=>by rw[hpl]; exact (hsy s hs').2 h⟩)) (by kernel_rfl) ?_
          simp (disch:=omega) only [↓wr,↓reduceIte,wq,ai,ah,ak,ae,af,ag,aj,isNil,Nat.reduceEqDiff,Nat.reduceAdd,Nat.reduceLT,Nat.reduceLeDiff,Int.reduceNeg,Int.reduceToNat,reduceCtorEq,t1,t2,t5,t6,t7,t8,t9,t41,t42,t43]
          refine aq.split (fun hal=>?_) (fun hal=>?_)
          · simp (disch:=omega) only [↓wr,↓reduceIte,wq,ai,ah,ak,ae,af,ag,aj,isNil,Nat.reduceEqDiff,Nat.reduceAdd,Nat.reduceLT,Nat.reduceLeDiff,Int.reduceNeg,Int.reduceToNat,reduceCtorEq,t1,t2,t5,t6,t7,t8,t9,t41,t42,t43]
            have hkr:bq p q r=true:=by rw[bq,hqd,hal]; rfl
            intro m hm
            try simp (disch:=omega) only [↓wr,↓reduceIte,wq,ai,ah,ak,ae,af,ag,aj,isNil,Nat.reduceEqDiff,Nat.reduceAdd,Nat.reduceLT,Nat.reduceLeDiff,Int.reduceNeg,Int.reduceToNat,reduceCtorEq,t1,t2,t5,t6,t7,t8,t9,t41,t42,t43,de]
            have hm11:=(bJ hm bM).1
            have hm:=(bJ (bJ hm bM).2 bM).2
            have hoB:=(hoA.fresh (n:=m) (o:=.arr 1 [[gi i]]) (by simp only[View.set,if_neg hm11]; exact hm)).at 2 (by simp)
            have n9m:b9≠m:=by rintro rfl; rw[h9] at hm; simp at hm
            have hkl:(bO p q (g.rules.take i) 0).length≤40:=by
              rw[hU]
              have h1:=List.length_filter_le (bq p q) (g.rules.take i)
              have h2:(g.rules.take i).length≤i:=List.length_take_le _ _
              omega
            refine eN (by rw[set_set]; exact hoB) (by simp[aS]) (by unfold aI; simp at hkl ⊢; omega) (by unfold aI; simp at hkl ⊢; omega) ?_
            intro u3' H3 ho3 hleft
            have f11:=ho3.is 1 rfl (by simp)
            have f8:=ho3.is 2 rfl (by simp)
            have hleft':Left ((H2.set b11 (.arr 3 [aJ r])).set m (.arr 1 [[gi i]])) H3 u3 u3':=by rw[set_set] at hleft; exact hleft
            have f9:H3 b9=.map (uc mm) cc:=hleft'.map (b:=b9) hoB.head (by simp[View.set,n911,n9m,h9])
            have hu1:dV u1=some (gI ((bw p q (g.rules.take i)).map fun x=>g.au.getD x.toNat ⟨#[]⟩)).length:=(ho3.own 3 rfl).len
            simp only[aJ,encI] at f11
            have e2:bO p q (g.rules.take (i+1)) 0=bO p q (g.rules.take i) 0 ++ [(i:Int)]:=by
              rw[htk,gX]; simp[bO,hkr,show i≤g.rules.length by omega]
            have e1:bw p q (g.rules.take (i+1))=cH (bw p q (g.rules.take i)) r:=by rw[htk,o6,if_pos hkr]
            generalize bw p q (g.rules.take i)=o at *
            generalize bO p q (g.rules.take i) 0=kl at *
            simp (disch:=omega) only [↓wr,↓reduceIte,wq,ai,ah,ak,ae,af,ag,aj,isNil,Nat.reduceEqDiff,Nat.reduceAdd,Nat.reduceLT,Nat.reduceLeDiff,Int.reduceNeg,Int.reduceToNat,reduceCtorEq,t1,t2,t5,t6,t8,t9,t41,t42,t43,f11,f8]
            refine JU (kt:=3) (et:=3) (z:=gi 0) (by kernel_rfl) (by kernel_rfl) (m3 .i64 Tryz.underlying3) (id:=b9) (c:=cc) (m:=mm) (k:=r.left) (by simp (disch:=omega) only [↓wr,↓reduceIte,wq,ai,ah,ak,ae,af,ag,aj,isNil,Nat.reduceEqDiff,Nat.reduceAdd,Nat.reduceLT,Nat.reduceLeDiff,Int.reduceNeg,Int.reduceToNat,reduceCtorEq,t9]) (by simp (disch:=omega) only [↓wr,↓reduceIte,wq,ai,ah,ak,ae,af,ag,aj,isNil,Nat.reduceEqDiff,Nat.reduceAdd,Nat.reduceLT,Nat.reduceLeDiff,Int.reduceNeg,Int.reduceToNat,reduceCtorEq]) f9 ?_
            rw[hm9.get,pt]
            have hob:o.length≤40:=by omega
            by_cases hx:r.left∈o
            · have e1':cH o r=o:=by rw[cH,if_pos hx]
              rw[if_pos hx]
              simp (disch:=omega) only [↓wr,↓reduceIte,wq,ai,ah,ak,ae,af,ag,aj,isNil,Nat.reduceEqDiff,Nat.reduceAdd,Nat.reduceLT,Nat.reduceLeDiff,Int.reduceNeg,Int.reduceToNat,reduceCtorEq,t1,t2,t5,t6,t8,t9,t41,t42,t43,Option.isSome_some]
              have ho4:=(((ho3.at 1 (by simp)).tail).perm (.swap _ _ _))
              refine aV hk (by omega) ⟨⟨u1,u3',rfl,by rw[e1,e1']; exact hin,by rw[e1,e1']; omega,?_,mm,cc,f9,by rw[e1,e1']; exact hm9⟩,t1,t2,t5,t6,t8,t9,t41,t42,rfl⟩
              rw[e1,e1',e2]
              simp only[List.map_append,List.map_cons,List.map_nil]
              exact ho4
            · have e1':cH o r=o ++ [r.left]:=by rw[cH,if_neg hx]
              rw[if_neg hx]
              have hgn:g.au[r.left.toNat]?=some (g.au[r.left.toNat]'(by omega)):=List.getElem?_eq_getElem (by omega)
              have hgnd:g.au.getD r.left.toNat ⟨#[]⟩=g.au[r.left.toNat]'(by omega):=by simp[List.getD_eq_getElem?_getD,hgn]
              generalize g.au[r.left.toNat]'(by omega)=nm at hgn hgnd
              simp (disch:=omega) only [↓wr,↓reduceIte,wq,ai,ah,ak,ae,af,ag,aj,isNil,Nat.reduceEqDiff,Nat.reduceAdd,Nat.reduceLT,Nat.reduceLeDiff,Int.reduceNeg,Int.reduceToNat,reduceCtorEq,t1,t2,t5,t6,t8,t9,t41,t42,t43,Option.isSome_none,f11,f8,hu1,List.length_map]
              refine Ap (kt:=3) (et:=3) (by kernel_rfl) (m3 .i64 Tryz.underlying3) (id:=b9) (c:=cc) (m:=mm) (k:=r.left) (v:=gi o.length) (by simp (disch:=omega) only [↓wr,↓reduceIte,wq,ai,ah,ak,ae,af,ag,aj,isNil,Nat.reduceEqDiff,Nat.reduceAdd,Nat.reduceLT,Nat.reduceLeDiff,Int.reduceNeg,Int.reduceToNat,reduceCtorEq,t9]) (by simp (disch:=omega) only [↓wr,↓reduceIte,wq,ai,ah,ak,ae,af,ag,aj,isNil,Nat.reduceEqDiff,Nat.reduceAdd,Nat.reduceLT,Nat.reduceLeDiff,Int.reduceNeg,Int.reduceToNat,reduceCtorEq]) (by simp (disch:=omega) only [↓wr,↓reduceIte,wq,ai,ah,ak,ae,af,ag,aj,isNil,Nat.reduceEqDiff,Nat.reduceAdd,Nat.reduceLT,Nat.reduceLeDiff,Int.reduceNeg,Int.reduceToNat,reduceCtorEq]) f9 ?_
              intro c'
              have n89:b8≠b9:=xd ho3 2 rfl f9
              have n119:b11≠b9:=xd ho3 1 rfl f9
              simp (disch:=omega) only [↓wr,↓reduceIte,wq,ai,ah,ak,ae,af,ag,aj,isNil,Nat.reduceEqDiff,Nat.reduceAdd,Nat.reduceLT,Nat.reduceLeDiff,Int.reduceNeg,Int.reduceToNat,reduceCtorEq,t1,t2,t5,t6,t8,t9,t41,t42,t43,f11,f8,n89,n119,ao,encS,List.getElem?_map,hgn]
              intro m2 hm2
              have hm29:=(bJ hm2 (by simp)).1
              have hm2:=(bJ hm2 (by simp)).2
              have ho5:=((ho3.Jg f9 (o:=.map (uc (bR r.left (gi o.length) cc mm)) c')).fresh (n:=m2) (o:=.arr 1 [[gs nm]]) (by simp only[View.set,if_neg hm29]; exact hm2)).at 3 (by simp)
              try simp (disch:=omega) only [↓wr,↓reduceIte,wq,ai,ah,ak,ae,af,ag,aj,isNil,Nat.reduceEqDiff,Nat.reduceAdd,Nat.reduceLT,Nat.reduceLeDiff,Int.reduceNeg,Int.reduceToNat,reduceCtorEq,t1,t2,t5,t6,t8,t9,t41,t42,t43,de]
              refine eN ho5 (by simp[aS]) (by unfold aI; simp; omega) (by unfold aI; simp; omega) ?_
              intro u1' H5 ho6 hleft2
              have c1:=ho6.head.cells
              have k1:=ho6.head.ld
              have f8':=ho6.is 3 rfl (by simp)
              have f9':=hleft2.map (b:=b9) (es:=uc (bR r.left (gi o.length) cc mm)) (c:=c') ho5.head (by simp[View.set,Ne.symm hm29])
              have n89':b9≠b8:=n89.symm
              simp (disch:=omega) only [↓wr,↓reduceIte,wq,ai,ah,ak,ae,af,ag,aj,isNil,Nat.reduceEqDiff,Nat.reduceAdd,Nat.reduceLT,Nat.reduceLeDiff,Int.reduceNeg,Int.reduceToNat,reduceCtorEq,t1,t2,t5,t6,t8,t9,t41,t42,t43,f8',c1,k1]
              have ho7:=(ho6.at 3 (by simp)).put (es':=[[u0,u1',.emp 1,gi 0]]) rfl rfl
              have ho8:=(((ho7.at 3 (by simp)).tail).perm (.cons _ (.swap _ _ _)))
              refine aV hk (by omega) ⟨⟨u1',u3',rfl,?_,?_,?_,_,c',(by simp only[View.set,if_neg n89']; exact f9'),?_⟩,t1,t2,t5,t6,t8,t9,t41,t42,rfl⟩
              · rw[e1,e1']; intro x hx'; rcases List.mem_append.1 hx' with h | h
                · exact hin x h
                · simp at h; subst h; exact ⟨hl2,hl3⟩
              · rw[e1,e1']; simp; omega
              · rw[e1,e1',e2]
                simp only[List.map_append,List.map_cons,List.map_nil,hgnd]
                exact ho8
              · rw[e1,e1',wY,Int.zero_add,← y7 hx]
                exact hm9.put r.left (o.length:Int) cc
          · simp (disch:=omega) only [↓wr,↓reduceIte,wq,ai,ah,ak,ae,af,ag,aj,isNil,Nat.reduceEqDiff,Nat.reduceAdd,Nat.reduceLT,Nat.reduceLeDiff,Int.reduceNeg,Int.reduceToNat,reduceCtorEq,t1,t2,t5,t6,t7,t8,t9,t41,t42,t43]
            refine hskip _ _ (by rw[bq,hqd,hal]; rfl) ?_ ?_ ?_ ?_ ?_ ?_ ?_ ?_ ?_ ?_ ?_
            all_goals first | exact t7 | exact t1 | exact t2 | exact t5 | exact t6 | exact t8 | exact t9 | exact t41 | exact t42 | rfl | (rw[set_set]; rfl)
      · rw[List.take_of_length_le (by omega)] at ho hin holen hm9
        have hkl40:(bO p q g.rules 0).length≤40:=by
          rw[hU]; have h1:=List.length_filter_le (bq p q) g.rules; omega
        have hkg:=py p q g.rules 0
        have hkln:=hU p q g.rules 0
        have hrg:eO g (cK (bw p q g.rules)) p q=⟨g.aC,(bw p q g.rules).map fun x=>g.au.getD x.toNat ⟨#[]⟩,(g.rules.filter (bq p q)).map (aZ (cK (bw p q g.rules))),cK (bw p q g.rules) g.start⟩:=rfl
        rw[hrg,if_pos rfl]
        clear hrg
        generalize bw p q g.rules=o at *
        generalize bO p q g.rules 0=kl at *
        have hob:o.length≤40:=by omega
        have hu3:dV u3=some (bI kl).length:=(ho.own 1 rfl).len
        simp (disch:=omega) only [↓wr,↓reduceIte,wq,ai,ah,ak,ae,af,ag,aj,isNil,Nat.reduceEqDiff,Nat.reduceAdd,Nat.reduceLT,Nat.reduceLeDiff,Int.reduceNeg,Int.reduceToNat,reduceCtorEq,t1,t2,t5,t6,t7,t8,t9,hu3,List.length_map]
        refine bo.up kl.length (J8 g p q b2 b8 b9 u0 u1 u3 o kl mm cc) ?_ ?_
        · refine ⟨⟨.emp 1,[],by simp,?_,h9⟩,t1,t2,t7,t8,t9,t7,rfl,rfl⟩
          exact (ho.emp (k:=1) (sz:=3)).perm (nY [(.sl b8 0 1 4,4,[[u0,u1,.emp 1,gi 0]]),(u3,1,bI kl),(u1,1,gI (o.map fun x=>g.au.getD x.toNat ⟨#[]⟩)),(u0,3,g.aC.map ch),(.emp 1,3,[]),(.sl b2 0 1 4,4,[[.emp 1,.emp 1,.emp 1,gi 0]])] 4 (by simp)).symm
        clear ho h9 t1 t2 t5 t6 t7 t8 t9 t41 t42 t43
        rintro i k T H2 hk ⟨⟨u2,bs,hbs,ho,h9⟩,t1,t2,t7,t8,t9,t91,t92,t93⟩
        simp (disch:=omega) only [↓wr,↓reduceIte,wq,ai,ah,ak,ae,af,ag,aj,isNil,Nat.reduceEqDiff,Nat.reduceAdd,Nat.reduceLT,Nat.reduceLeDiff,Int.reduceNeg,Int.reduceToNat,reduceCtorEq,ph,t1,t2,t7,t8,t9,t91,t92,t93]
        refine aq.dec (fun hc=>?_) (fun hc=>?_)
        · obtain ⟨n3,e3,hn3⟩:=(ho.own 1 rfl).sl (by simp; omega)
          rw[List.length_map] at e3
          subst e3
          obtain ⟨m,hm1,hm2,hm3⟩:=hkg i (by omega)
          have hbg:=ie (show i < kl.length by omega)
          rw[Int.zero_add] at hm1
          have hki:kl[i]'(by omega)=(m:Int):=by
            rw[List.getElem?_eq_getElem (show i < kl.length by omega)] at hm1; simpa using hm1
          rw[hki] at hbg
          have hg2:g.rules[m]?=some (g.rules[m]'hm3):=List.getElem?_eq_getElem hm3
          have hmem:g.rules[m]'hm3∈g.rules:=List.getElem_mem _
          have htk:(g.rules.filter (bq p q)).take (i+1)=(g.rules.filter (bq p q)).take i ++ [g.rules[m]'hm3]:=by
            rw[List.take_add_one,← hm2,hg2]; rfl
          generalize g.rules[m]'hm3=r at hg2 hmem htk
          obtain ⟨hl1,hl2,hl3,hr6,hsy⟩:=hf.oF hg hmem
          simp (disch:=omega) only [↓wr,↓reduceIte,wq,ai,ah,ak,ae,af,ag,aj,isNil,Nat.reduceEqDiff,Nat.reduceAdd,Nat.reduceLT,Nat.reduceLeDiff,Int.reduceNeg,Int.reduceToNat,reduceCtorEq,t1,t2,t7,t8,t9,t91,t92,t93,hn3,hbg,List.length_map,ao,aJ,encI,List.getElem?_map,hg2]
          refine ⟨by omega,by omega,?_⟩
          intro b16 hb16
          have hoA:=ho.new hb16 3 [aJ r]
          have n916:b9≠b16:=by rintro rfl; rw[h9] at hb16; simp at hb16
          try simp (disch:=omega) only [↓wr,↓reduceIte,wq,ai,ah,ak,ae,af,ag,aj,isNil,Nat.reduceEqDiff,Nat.reduceAdd,Nat.reduceLT,Nat.reduceLeDiff,Int.reduceNeg,Int.reduceToNat,reduceCtorEq,t1,t2,t7,t8,t9,t91,t92,t93,set_set]
          refine zP (kt:=3) (et:=3) (z:=gi 0) (by kernel_rfl) (by kernel_rfl) (m3 .i64 Tryz.underlying3) (id:=b9) (c:=cc) (m:=mm) (k:=r.left) (by simp (disch:=omega) only [↓wr,↓reduceIte,wq,ai,ah,ak,ae,af,ag,aj,isNil,Nat.reduceEqDiff,Nat.reduceAdd,Nat.reduceLT,Nat.reduceLeDiff,Int.reduceNeg,Int.reduceToNat,reduceCtorEq,t9]) (by simp (disch:=omega) only [↓wr,↓reduceIte,wq,ai,ah,ak,ae,af,ag,aj,isNil,Nat.reduceEqDiff,Nat.reduceAdd,Nat.reduceLT,Nat.reduceLeDiff,Int.reduceNeg,Int.reduceToNat,reduceCtorEq]) (by simp[View.set,n916,h9]) ?_
          have hgt:∀ x,(getM mm x).getD (gi 0)=gi (cK o x):=fun x=>by
            rw[hm9.get,cK]; cases c3 (gh o 0) x <;> rfl
          rw[hgt]
          simp (disch:=omega) only [↓wr,↓reduceIte,wq,ai,ah,ak,ae,af,ag,aj,isNil,Nat.reduceEqDiff,Nat.reduceAdd,Nat.reduceLT,Nat.reduceLeDiff,Int.reduceNeg,Int.reduceToNat,reduceCtorEq,t1,t2,t7,t8,t9,t91,t92,t93]
          refine az.H7 (F1 r.right (by omega) _) ?_
          intro v H3 hv hfr
          have hoB:=bD.Jf (H:=H2.set b16 (.arr 3 [aJ r])) hoA hv (by rw[set_set] at hfr; exact hfr)
          have h9B:H3 b9=.map (uc mm) cc:=by
            rw[(hfr b9 (by simp[View.set,n916,h9])).1]; simp[View.set,n916,h9]
          have cv:=hv.cells
          have kv:=hv.ld
          have lv:=hv.len
          have f16:=hoB.is 1 rfl (by simp)
          simp only[aJ,encI] at f16
          simp (disch:=omega) only [↓wr,↓reduceIte,wq,ai,ah,ak,ae,af,ag,aj,isNil,Nat.reduceEqDiff,Nat.reduceAdd,Nat.reduceLT,Nat.reduceLeDiff,Int.reduceNeg,Int.reduceToNat,reduceCtorEq,t1,t2,t7,t8,t9,t91,t92,t93,f16,cv,kv]
          intro b17 hb17
          have hoC:=hoB.new hb17 3 [[gi (cK o r.left),v,gi r.prec]]
          have n917:b9≠b17:=by rintro rfl; rw[h9B] at hb17; simp at hb17
          try simp (disch:=omega) only [↓wr,↓reduceIte,wq,ai,ah,ak,ae,af,ag,aj,isNil,Nat.reduceEqDiff,Nat.reduceAdd,Nat.reduceLT,Nat.reduceLeDiff,Int.reduceNeg,Int.reduceToNat,reduceCtorEq,t1,t2,t7,t8,t9,t91,t92,t93,cv,kv,lv,set_set,List.length_map]
          generalize hL:((V.sl b8 0 1 4,4,[[u0,u1,u2,gi 0]]) :: (V.sl n3 0 kl.length 1,1,bI kl) ::
              (u1,1,gI (o.map fun x=>g.au.getD x.toNat ⟨#[]⟩)) :: (u0,3,g.aC.map ch) :: (u2,3,eE bs) :: (V.sl b2 0 1 4,4,[[V.emp 1,V.emp 1,V.emp 1,gi 0]]) :: jq bs:List eR)=L at hoC
          refine bo.up r.right.length (J3 g b2 b8 b9 b16 b17 (.sl n3 0 kl.length 1) v o kl mm cc r L i) ?_ ?_
          · exact ⟨by rw[set_set]; exact hoC,by simp[View.set,n917,h9B],t1,t2,t7,t8,t9,t91,t92,t93,rfl,rfl,rfl,rfl⟩
          clear hoA hoB hoC hb16 hb17 h9 h9B f16 hv hfr t1 t2 t7 t8 t9 t91 t92 t93
          rintro k k2 T H3 hk2 ⟨hoC,h9,t1,t2,t7,t8,t9,t91,t92,t93,t17,t113,t114,t115⟩
          have f17:=hoC.is 0 rfl (by simp)
          simp (disch:=omega) only [↓wr,↓reduceIte,wq,ai,ah,ak,ae,af,ag,aj,isNil,Nat.reduceEqDiff,Nat.reduceAdd,Nat.reduceLT,Nat.reduceLeDiff,Int.reduceNeg,Int.reduceToNat,reduceCtorEq,pF,t1,t2,t7,t8,t9,t91,t92,t93,t17,t113,t114,t115]
          refine aq.dec (fun hcc=>?_) (fun hcc=>?_)
          · have hgs:r.right[k]?=some (r.right[k]'(by omega)):=List.getElem?_eq_getElem (by omega)
            have hms:r.right[k]'(by omega)∈r.right:=List.getElem_mem _
            have hrl:(aZ (cK o) r).right.length=r.right.length:=by simp[aZ]
            have hts:(aZ (cK o) r).right.take (k+1)=(aZ (cK o) r).right.take k ++ [if r.right[k]'(by omega) < 0 then -1 - cK o (-1 - r.right[k]'(by omega)) else r.right[k]'(by omega)]:=by
              rw[List.take_add_one]; simp[aZ,hgs]
            have hdr:=dK (show k < r.right.length by omega)
            generalize r.right[k]'(by omega)=s at hgs hms hts hdr
            obtain ⟨⟨s1,s2⟩,s3⟩:=hsy s hms
            have hbd:=Ix o (-1 - s)
            rw[hdr] at hoC
            have hlen:(((aZ (cK o) r).right.take k ++ s :: r.right.drop (k+1)).map fun x=>[gi x]).length=r.right.length:=by simp; omega
            obtain ⟨nv,ev,hnv⟩:=(hoC.own 1 rfl).sl (by rw[hlen]; omega)
            rw[hlen] at ev
            subst ev
            have hlt:k < ((aZ (cK o) r).right.take k ++ s :: r.right.drop (k+1)).length:=by simp; omega
            have hbg2:=ie hlt
            have hel:((aZ (cK o) r).right.take k ++ s :: r.right.drop (k+1))[k]'hlt=s:=by
              rw[List.getElem_append_right (by simp; omega)]
              simp[show k - min k r.right.length=0 by omega,hrl]
            rw[hel] at hbg2
            simp (disch:=omega) only [↓wr,↓reduceIte,wq,ai,ah,ak,ae,af,ag,aj,isNil,Nat.reduceEqDiff,Nat.reduceAdd,Nat.reduceLT,Nat.reduceLeDiff,Int.reduceNeg,Int.reduceToNat,reduceCtorEq,t1,t2,t7,t8,t9,t91,t92,t93,t17,t113,t114,t115,hnv,hbg2,List.length_map]
            refine ⟨by omega,hlt,?_⟩
            have hlk:((aZ (cK o) r).right.take k).length=k:=by rw[List.length_take]; omega
            have nv9:nv≠b9:=xd hoC 1 rfl h9
            refine aq.dec (fun hneg=>?_) (fun hneg=>?_)
            · rw[if_pos hneg] at hts
              simp (disch:=omega) only [↓wr,↓reduceIte,wq,ai,ah,ak,ae,af,ag,aj,isNil,Nat.reduceEqDiff,Nat.reduceAdd,Nat.reduceLT,Nat.reduceLeDiff,Int.reduceNeg,Int.reduceToNat,reduceCtorEq,t1,t2,t7,t8,t9,t91,t92,t93,t17,t113,t114,t115,f17]
              refine zP (kt:=3) (et:=3) (z:=gi 0) (by kernel_rfl) (by kernel_rfl) (m3 .i64 Tryz.underlying3) (id:=b9) (c:=cc) (m:=mm) (k:=-1 - s) (by simp (disch:=omega) only [↓wr,↓reduceIte,wq,ai,ah,ak,ae,af,ag,aj,isNil,Nat.reduceEqDiff,Nat.reduceAdd,Nat.reduceLT,Nat.reduceLeDiff,Int.reduceNeg,Int.reduceToNat,reduceCtorEq,t9]) (by simp (disch:=omega) only [↓wr,↓reduceIte,wq,ai,ah,ak,ae,af,ag,aj,isNil,Nat.reduceEqDiff,Nat.reduceAdd,Nat.reduceLT,Nat.reduceLeDiff,Int.reduceNeg,Int.reduceToNat,reduceCtorEq]) h9 ?_
              rw[hgt]
              simp (disch:=omega) only [↓wr,↓reduceIte,wq,ai,ah,ak,ae,af,ag,aj,isNil,Nat.reduceEqDiff,Nat.reduceAdd,Nat.reduceLT,Nat.reduceLeDiff,Int.reduceNeg,Int.reduceToNat,reduceCtorEq,t1,t2,t7,t8,t9,t91,t92,t93,t17,t113,t114,t115,f17,hnv,hbg2,List.length_map]
              refine ⟨by omega,hlt,?_⟩
              have hoD:=((hoC.at 1 (by simp)).put (es':=((((aZ (cK o) r).right.take k ++ s :: r.right.drop (k+1)).map fun x=>[gi x]).set k [gi (-1 - cK o (-1 - s))])) (by simp) (by rw[hlen])).perm (.swap _ _ _)
              refine aV hk2 (by omega) ⟨?_,by simp only[View.set,if_neg nv9.symm]; exact h9,t1,t2,t7,t8,t9,t91,t92,t93,t17,t113,t114,rfl⟩
              rw[ints_set,yl hlk] at hoD
              rw[hts,List.append_assoc]
              rw[ints_set,yl hlk]
              exact hoD
            · rw[if_neg hneg] at hts
              simp (disch:=omega) only [↓wr,↓reduceIte,wq,ai,ah,ak,ae,af,ag,aj,isNil,Nat.reduceEqDiff,Nat.reduceAdd,Nat.reduceLT,Nat.reduceLeDiff,Int.reduceNeg,Int.reduceToNat,reduceCtorEq,t1,t2,t7,t8,t9,t91,t92,t93,t17,t113,t114,t115]
              refine aV hk2 (by omega) ⟨?_,h9,t1,t2,t7,t8,t9,t91,t92,t93,t17,t113,t114,rfl⟩
              rw[hts,List.append_assoc]
              exact hoC
          · rw[List.take_of_length_le (by simp[aZ]; omega),List.drop_eq_nil_of_le (by omega),List.append_nil] at hoC
            subst hL
            have f8:=hoC.is 3 rfl (by simp)
            have cv:=(hoC.own 1 rfl).cells
            have kv:=(hoC.own 1 rfl).ld
            have hbl:(eE bs).length≤40:=by
              have h1:=congrArg List.length hbs
              simp only[List.length_map,List.length_take] at h1
              simp only[eE,List.length_map]
              omega
            simp (disch:=omega) only [↓wr,↓reduceIte,wq,ai,ah,ak,ae,af,ag,aj,isNil,Nat.reduceEqDiff,Nat.reduceAdd,Nat.reduceLT,Nat.reduceLeDiff,Int.reduceNeg,Int.reduceToNat,reduceCtorEq,t1,t2,t7,t8,t9,t91,t92,t93,t17,t113,t114,t115,f8,f17,cv,kv]
            intro m hm
            have n9m:b9≠m:=by rintro rfl; rw[h9] at hm; simp at hm
            try simp (disch:=omega) only [↓wr,↓reduceIte,wq,ai,ah,ak,ae,af,ag,aj,isNil,Nat.reduceEqDiff,Nat.reduceAdd,Nat.reduceLT,Nat.reduceLeDiff,Int.reduceNeg,Int.reduceToNat,reduceCtorEq,t1,t2,t7,t8,t9,t91,t92,t93,t17,de]
            have hoD:=(hoC.fresh (o:=.arr 3 [[gi (cK o r.left),v,gi r.prec]]) hm).at 7 (by simp)
            refine eN hoD (by simp[uK,kv]) (by unfold aI; simp at hbl ⊢; omega) (by unfold aI; simp at hbl ⊢; omega) ?_
            intro u2' H4 hoE hleft
            have cu:=hoE.head.cells
            have ku:=hoE.head.ld
            have f8':=hoE.is 4 rfl (by simp)
            have h9':H4 b9=.map (uc mm) cc:=hleft.map (b:=b9) hoD.head (by simp[View.set,n9m,h9])
            have n98:b9≠b8:=(xd hoE 4 rfl h9').symm
            simp (disch:=omega) only [↓wr,↓reduceIte,wq,ai,ah,ak,ae,af,ag,aj,isNil,Nat.reduceEqDiff,Nat.reduceAdd,Nat.reduceLT,Nat.reduceLeDiff,Int.reduceNeg,Int.reduceToNat,reduceCtorEq,t1,t2,t7,t8,t9,t91,t92,t93,t17,f8',cu,ku]
            have hoF:=(hoE.at 4 (by simp)).put (es':=[[u0,u1,u2',gi 0]]) rfl rfl
            have hoG:=((((hoF.at 2 (by simp)).tail).at 3 (by simp)).tail)
            refine aV hk (by omega) ⟨⟨u2',bs ++ [(v,aZ (cK o) r)],?_,?_,by simp only[View.set,if_neg n98]; exact h9'⟩,t1,t2,t7,t8,t9,t91,t92,rfl⟩
            · rw[List.map_append,hbs,htk,List.map_append]; rfl
            · refine hoG.perm (.cons _ ?_)
              simp only[jq,eE,List.map_append,List.map_cons,List.map_nil]
              refine .trans ?_ (nY _ 3 (by simp)).symm
              refine .cons _ ?_
              exact (List.perm_append_singleton (v,1,bI (aZ (cK o) r).right) ((.sl n3 0 kl.length 1,1,bI kl) :: (u1,1,gI (o.map fun x=>g.au.getD x.toNat ⟨#[]⟩)) :: (u0,3,g.aC.map ch) :: (.sl b2 0 1 4,4,[[.emp 1,.emp 1,.emp 1,gi 0]]) :: jq bs)).symm
        · rw[List.take_of_length_le (by omega)] at hbs
          have f8:=ho.is 0 rfl (by simp)
          have f2:=ho.is 5 rfl (by simp)
          have n82:b8≠b2:=ho.FT 0 5 rfl rfl (by omega)
          have c1:=(ho.own 2 rfl).cells
          have k1:=(ho.own 2 rfl).ld
          have c2:=(ho.own 4 rfl).cells
          have k2:=(ho.own 4 rfl).ld
          have hgt:∀ x,(getM mm x).getD (gi 0)=gi (cK o x):=fun x=>by
            rw[hm9.get,cK]; cases c3 (gh o 0) x <;> rfl
          simp (disch:=omega) only [↓wr,↓reduceIte,wq,ai,ah,ak,ae,af,ag,aj,isNil,Nat.reduceEqDiff,Nat.reduceAdd,Nat.reduceLT,Nat.reduceLeDiff,Int.reduceNeg,Int.reduceToNat,reduceCtorEq,t1,t2,t7,t8,t9,t91,t92,t93,ao]
          refine zP (kt:=3) (et:=3) (z:=gi 0) (by kernel_rfl) (by kernel_rfl) (m3 .i64 Tryz.underlying3) (id:=b9) (c:=cc) (m:=mm) (k:=g.start) (by simp (disch:=omega) only [↓wr,↓reduceIte,wq,ai,ah,ak,ae,af,ag,aj,isNil,Nat.reduceEqDiff,Nat.reduceAdd,Nat.reduceLT,Nat.reduceLeDiff,Int.reduceNeg,Int.reduceToNat,reduceCtorEq,t9]) (by simp (disch:=omega) only [↓wr,↓reduceIte,wq,ai,ah,ak,ae,af,ag,aj,isNil,Nat.reduceEqDiff,Nat.reduceAdd,Nat.reduceLT,Nat.reduceLeDiff,Int.reduceNeg,Int.reduceToNat,reduceCtorEq]) h9 ?_
          rw[hgt]
          simp (disch:=omega) only [↓wr,↓reduceIte,wq,ai,ah,ak,ae,af,ag,aj,isNil,Nat.reduceEqDiff,Nat.reduceAdd,Nat.reduceLT,Nat.reduceLeDiff,Int.reduceNeg,Int.reduceToNat,reduceCtorEq,t1,t2,t7,t8,t9,t91,t92,t93,f8,f2,n82,n82.symm,c0,k0,c1,k1,c2,k2]
          intro h' hh
          have hoA:=ho.put (es':=[[u0,u1,u2,gi (cK o g.start)]]) rfl rfl
          have hoB:=(hoA.at 5 (by simp)).put (es':=[[u0,u1,u2,gi (cK o g.start)]]) rfl rfl
          have hv:h'.view=(H2.set b8 (.arr 4 [[u0,u1,u2,gi (cK o g.start)]])).set b2 (.arr 4 [[u0,u1,u2,gi (cK o g.start)]]):=hh
          rw[← hv] at hoB
          exact C9 (x:=(⟨g.aC,o.map fun x=>g.au.getD x.toNat ⟨#[]⟩,(g.rules.filter (bq p q)).map (aZ (cK o)),cK o g.start⟩,kl,0)) (b:=bs) (hoB.own 4 rfl) (hoB.own 3 rfl) (hoB.own 5 rfl) (fun y hy=>hoB.1 y (by
            refine List.mem_cons_of_mem _ (List.mem_cons_of_mem _ (List.mem_cons_of_mem _ (List.mem_cons_of_mem _ (List.mem_cons_of_mem _ (List.mem_cons_of_mem _ ?_)))))
            exact hy)) hbs (hoB.own 2 rfl)
  · rename_i hr
    intro h' hh
    rw[if_neg (by simp[hr])]
    exact rn
end Gv
set_option linter.unusedSimpArgs false
namespace Gv
open Go Go.Proofs
theorem C0 {l:List Int} {a b:List Bool} {t:Bool} (h:eF a b) (k:cg l a t=true):cg l b t=true:=by
  simp only[cg,List.all_eq_true] at k ⊢
  intro s hs
  have:=k s hs
  by_cases h0:0≤s
  · rw[if_pos h0] at this ⊢; exact this
  · rw[if_neg h0] at this ⊢; exact h.2 _ this
theorem eF.HC {a b:List Bool} (h:eF a b) (k:eF b a):a=b:=by
  have h1:=h.bX
  have h2:=k.bX
  exact h1.2 (by omega)
def kg (g:av) (t:Bool) (is:List Bool):Prop:=∀ i,is.getD i false=true→∃ r∈g.rules,r.left.toNat=i∧cg r.right is t=true
theorem kg.step {g:av} {t:Bool} {is:List Bool} {r:aT} (h:kg g t is) (hr:r∈g.rules):kg g t (cF t is r):=by
  have hle:eF is (cF t is r):=by
    unfold cF
    split
    · exact .set _ _
    · exact .refl _
  intro i hi
  by_cases e:is.getD i false=true
  · obtain ⟨r',h1,h2,h3⟩:=h i e
    exact ⟨r',h1,h2,C0 hle h3⟩
  · unfold cF at hi
    by_cases ha:cg r.right is t=true
    · rw[if_pos ha] at hi
      have:r.left.toNat=i:=by
        refine Classical.byContradiction fun hne=>e ?_
        simp only[List.getD_eq_getElem?_getD,List.getElem?_set,if_neg hne] at hi ⊢
        exact hi
      exact ⟨r,hr,this,C0 hle ha⟩
    · rw[if_neg ha] at hi; exact absurd hi e
theorem kg.fold {g:av} {t:Bool} : ∀ (l:List aT) (is:List Bool),(∀ r∈l,r∈g.rules)→kg g t is→kg g t (l.foldl (cF t) is)
  | [],is,_,h=>h
  | r :: l,is,hl,h=>kg.fold l _ (fun x hx=>hl x (by simp[hx])) (h.step (hl r (by simp)))
theorem kg.iter {g:av} {t:Bool} : ∀ (n:Nat) (is:List Bool),kg g t is→kg g t (iter (fP g t) n is)
  | 0,_,h=>h
  | n+1,is,h=>kg.iter n _ (kg.fold g.rules is (fun _ h=>h) h)
theorem DA (g:av) (t:Bool):kg g t (aw g t):=by
  unfold aw
  split
  · refine kg.iter _ _ ?_
    intro i hi
    simp only[bG,List.getD_eq_getElem?_getD,List.getElem?_replicate] at hi
    split at hi <;> simp at hi
  · intro i hi; simp at hi
theorem De (is:List Bool) (s:Int):eF is (mark is s):=by
  unfold mark
  split
  · exact .set _ _
  · exact .refl _
theorem vY:∀ (l:List Int) (is:List Bool),eF is (l.foldl mark is)
  | [],is=>.refl _
  | s :: l,is=>(De is s).trans (vY l _)
theorem AB (p is:List Bool) (r:aT):eF is (dP p is r):=by
  unfold dP
  split
  · exact vY _ _
  · exact .refl _
theorem AL (p:List Bool):∀ (l:List aT) (is:List Bool),eF is (l.foldl (dP p) is)
  | [],is=>.refl _
  | r :: l,is=>(AB p is r).trans (AL p l _)
theorem yL {p:List Bool} : ∀ {l:List aT} {is:List Bool},l.foldl (dP p) is=is→∀ r∈l,dP p is r=is
  | [],_,_,_,h=>by simp at h
  | r :: l,is,h,x,hx=>by
    rw[List.foldl_cons] at h
    have h1:=AL p l (dP p is r)
    rw[h] at h1
    have h2:=(h1.HC (AB p is r))
    rcases List.mem_cons.1 hx with rfl | hx
    · exact h2
    · rw[h2] at h; exact yL h x hx
theorem yz:∀ {l:List Int} {is:List Bool},l.foldl mark is=is→∀ s∈l,mark is s=is
  | [],_,_,_,h=>by simp at h
  | r :: l,is,h,x,hx=>by
    rw[List.foldl_cons] at h
    have h1:=vY l (mark is r)
    rw[h] at h1
    have h2:=(h1.HC (De is r))
    rcases List.mem_cons.1 hx with rfl | hx
    · exact h2
    · rw[h2] at h; exact yz h x hx
theorem y6 {g:av} (hr:aR g=true):ky g (aw g true) (aQ g)=aQ g∧eF ((bG g).set g.start.toNat true) (aQ g):=by
  have hf:=aO hr
  have h:=pA (oD (aw g true)) g.rules 16 ((bG g).set g.start.toNat true) (by have:=hf.au; simp[bG]; omega)
  rw[Ck,FH hr] at h
  exact h
theorem pK {g:av} (hr:aR g=true):(aQ g).getD g.start.toNat false=true:=by
  have hf:=aO hr
  refine (y6 hr).2.2 _ ?_
  have h3:=hf.dS
  have h4:=hf.start
  simp only[List.getD_eq_getElem?_getD]
  rw[List.getElem?_set_self (by simp[bG]; omega)]
  rfl
theorem rB {g:av} (hr:aR g=true) {r:aT} (hm:r∈g.rules) (hk:bq (aw g true) (aQ g) r=true) {s:Int} (hs:s∈r.right) (hn:s < 0):(aQ g).getD (-1 - s).toNat false=true:=by
  have hf:=aO hr
  have h1:=yL (y6 hr).1 r hm
  unfold dP at h1
  rw[bq] at hk
  rw[if_pos hk] at h1
  have h2:=yz h1 s hs
  unfold mark at h2
  rw[if_pos hn] at h2
  rw[← h2]
  have hl:=l0 hr
  have:=hf.neg hm hs hn
  simp only[List.getD_eq_getElem?_getD]
  rw[List.getElem?_set_self (by omega)]
  rfl
theorem xC {g:av} (hr:aR g=true) {x:Int} (h0:0≤x) (hp:(aw g true).getD x.toNat false=true) (hq:(aQ g).getD x.toNat false=true):x∈bw (aw g true) (aQ g) g.rules:=by
  obtain ⟨r,h1,h2,h3⟩:=DA g true _ hp
  have hf:=aO hr
  have h4:=hf.left r h1
  have:r.left=x:=by omega
  refine oG.2 ⟨r,h1,?_,this⟩
  rw[bq,this,hq,h3]; rfl
theorem D8 (g:av):(if aR g=true then
    if (aw g true).getD g.start.toNat false=true then (eO g (cK (bw (aw g true) (aQ g) g.rules)) (aw g true) (aQ g),bO (aw g true) (aQ g) g.rules 0,0)
    else (u6,[],9)
  else (u6,[],1))=dp g:=by
  unfold dp
  by_cases hr:aR g=true
  · rw[if_pos hr,if_pos hr]
    by_cases hp:(aw g true).getD g.start.toNat false=true
    · rw[if_pos hp,if_pos hp]
      have hf:=aO hr
      rw[Fh]
      · exact xC hr hf.dS hp (pK hr)
      · intro r hm
        obtain ⟨h1,h2⟩:=List.mem_filter.1 hm
        refine ⟨oG.2 ⟨r,h1,h2,rfl⟩,fun s hs hn=>?_⟩
        refine xC hr (by omega) ?_ (rB hr h1 h2 hs hn)
        rw[bq,Bool.and_eq_true] at h2
        have:=h2.2
        simp only[cg,List.all_eq_true] at this
        have:=this s hs
        rwa [if_neg (by omega)] at this
    · rw[if_neg hp,if_neg hp]
  · rw[if_neg hr,if_neg hr]
theorem En (g:av) (hg:g.Ok) (hs:g.Small):cx Tryz.prog 43 [.agg (ao g)] (sg (dp g)):=by
  rw[← D8]; exact BL g hg hs
end Gv
