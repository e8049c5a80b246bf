/-
  Part 11 of the proof: what the machine does and what the functions answer.
  Conditions: those that each lemma names.
-/
import Derived.ProofKit
import Derived.SizedLaws
import Derived.Test.YtihmlbdfcmfbdaaGreatSGzA6J
set_option linter.unusedSimpArgs false
set_option linter.unusedVariables false
set_option maxRecDepth 100000
namespace Gv
open Go Go.Proofs
def kC:SC :=
  .seq (.seq (ak [aa 42 9,aa 43 8,aJ 44 43,aN 45 .lss 42 44]) <|
  .cond (.tmp 45) (.skip) (.exit 0)) <|
  .seq (.block 1 (ak [aa 48 8,aa 49 9,aP 50 1 48 49,(none,.op (.store 1 (.tmp 50) (.val (.val (.int .i64 (-1))))))])) <|
  ak [aa 46 9,aA 47 .add 46 1,aa 9 47]
def kA:SC :=
  .seq (.seq (ak [aa 51 11,av 52 2 1,au 53 52,aJ 54 53,aN 55 .lss 51 54]) <|
  .cond (.tmp 55) (.skip) (.exit 2)) <|
  .seq (.block 3 (.seq (ak [av 58 2 1,au 59 58,aa 60 11,aP 61 3 59 60,aK 62 3 61,((some 12),.op (.alloc [(.val (.int .i64 0)),(.emp 1),(.val (.int .i64 0))])),(none,.op (.store 3 (.tmp 12) (.tmp 62)))]) <|
  .seq (.seq (.region false [⟨none,[aa 63 6,av 64 0 12,au 65 64,aP 66 1 63 65,au 67 66,b6 68 67,aa 69 68]⟩,⟨(some (69,false)),[av 70 1 12,au 71 70,aa 72 5,c9 73 117 [(.tmp 71),(.tmp 72),(.val (.val (.bool true)))],b6 74 73]⟩,⟨none,[bJ 75 69 74]⟩]) <|
  .cond (.tmp 75) (.exit 3) (.skip)) <|
  .seq (ak [aa 76 10,aa 77 11,((some 78),.op (.bC 1 1 [(.val (.int .i64 0))] [(0,(.tmp 77))])),((some 79),.op (.app 1 8 (.tmp 76) (.tmp 78))),aa 10 79]) <|
  .seq (ak [aa 80 8,av 81 0 12,au 82 81,aP 83 1 80 82,au 84 83,aA 85 .lss 84 0]) <|
  .cond (.tmp 85) (.seq (ak [aa 86 8,av 87 0 12,au 88 87,av 89 1 7,au 90 89,aJ 91 90,aP 92 1 86 88,(none,.op (.store 1 (.tmp 92) (.tmp 91)))]) <|
  .region false [⟨none,[av 93 1 7,au 94 93,av 95 1 1,au 96 95,av 97 0 12,au 98 97,aP 99 1 96 98,au 100 99,((some 101),.op (.bC 1 1 [(.val (.string ⟨#[]⟩))] [(0,(.tmp 100))])),((some 102),.op (.app 1 16 (.tmp 94) (.tmp 101))),av 103 1 7,(none,.op (.store 1 (.tmp 103) (.tmp 102)))]⟩]) (.skip))) <|
  ak [aa 56 11,aA 57 .add 56 1,aa 11 57]
def kF:SC :=
  .seq (.seq (ak [aa 126 16,av 127 1 14,au 128 127,aJ 129 128,aN 130 .lss 126 129]) <|
  .cond (.tmp 130) (.skip) (.exit 6)) <|
  .seq (.block 7 (.seq (ak [av 133 1 14,au 134 133,aa 135 16,aP 136 1 134 135,au 137 136,aa 17 137]) <|
  .seq (.seq (ak [aa 138 17,aA 139 .lss 138 0]) <|
  .cond (.tmp 139) (ak [aa 140 8,aa 141 17,((some 142),.op (.arith .sub (.val (.val (.int .i64 (-1)))) (.tmp 141))),aP 143 1 140 142,au 144 143,((some 145),.op (.arith .sub (.val (.val (.int .i64 (-1)))) (.tmp 144))),aa 17 145]) (.skip)) <|
  ak [av 146 1 15,au 147 146,aa 148 17,((some 149),.op (.bC 1 1 [(.val (.int .i64 0))] [(0,(.tmp 148))])),((some 150),.op (.app 1 8 (.tmp 147) (.tmp 149))),av 151 1 15,(none,.op (.store 1 (.tmp 151) (.tmp 150)))])) <|
  ak [aa 131 16,aA 132 .add 131 1,aa 16 132]
def kK:SC :=
  .seq (.seq (ak [aa 104 13,aa 105 10,aJ 106 105,aN 107 .lss 104 106]) <|
  .cond (.tmp 107) (.skip) (.exit 4)) <|
  .seq (.block 5 (.seq (ak [av 110 2 1,au 111 110,aa 112 10,aa 113 13,aP 114 1 112 113,au 115 114,aP 116 3 111 115,aK 117 3 116,((some 14),.op (.alloc [(.val (.int .i64 0)),(.emp 1),(.val (.int .i64 0))])),(none,.op (.store 3 (.tmp 14) (.tmp 117)))]) <|
  .seq (ak [aa 118 8,av 119 0 14,au 120 119,aP 121 1 118 120,au 122 121,av 123 2 14,au 124 123,((some 125),.op (.build [(.val (.int .i64 0)),(.emp 1),(.val (.int .i64 0))] [(0,1,(.tmp 122)),(2,1,(.tmp 124))])),((some 15),.op (.alloc [(.val (.int .i64 0)),(.emp 1),(.val (.int .i64 0))])),(none,.op (.store 3 (.tmp 15) (.tmp 125)))]) <|
  .seq (.seq (ak [aF 16 0]) <|
  .block 6 (.loop kF)) <|
  ak [av 152 2 7,au 153 152,aK 154 3 15,((some 155),.op (.bC 1 3 [(.val (.int .i64 0)),(.emp 1),(.val (.int .i64 0))] [(0,(.tmp 154))])),((some 156),.op (.app 3 40 (.tmp 153) (.tmp 155))),av 157 2 7,(none,.op (.store 1 (.tmp 157) (.tmp 156)))])) <|
  ak [aa 108 13,aA 109 .add 108 1,aa 13 109]
def mj:SF:=⟨.seq (ak [bZ 1 0,((some 2),.op (.alloc [(.emp 1),(.emp 1),(.emp 1),(.val (.int .i64 0))])),((some 3),.op (.bm (.val (.emp 1)))),aF 4 0]) <|
  .seq (.seq (ak [aK 18 4 1,aI 19 54 [18],b6 20 19]) <|
  .cond (.tmp 20) (.seq (ak [((some 21),.op (.build [(.emp 1),(.emp 1),(.emp 1),(.val (.int .i64 0))] [])),(none,.op (.store 4 (.tmp 2) (.tmp 21))),((some 3),.op (.bm (.val (.emp 1)))),aF 4 1]) <|
  .ret) (.skip)) <|
  .seq (.region true [⟨none,[aK 22 4 1,aI 23 115 [22],aK 24 4 1,aI 25 116 [24],aa 5 23,aa 6 25]⟩]) <|
  .seq (.seq (ak [aa 26 5,av 27 3 1,au 28 27,aP 29 1 26 28,au 30 29,b6 31 30]) <|
  .cond (.tmp 31) (.seq (ak [((some 32),.op (.build [(.emp 1),(.emp 1),(.emp 1),(.val (.int .i64 0))] [])),(none,.op (.store 4 (.tmp 2) (.tmp 32))),((some 3),.op (.bm (.val (.emp 1)))),aF 4 9]) <|
  .ret) (.skip)) <|
  .seq (ak [((some 33),.op (.bm (.val (.emp 2)))),av 34 0 1,au 35 34,((some 36),.op (.app 3 32 (.tmp 33) (.tmp 35))),((some 37),.op (.build [(.emp 1),(.emp 1),(.emp 1),(.val (.int .i64 0))] [(0,1,(.tmp 36))])),((some 7),.op (.alloc [(.emp 1),(.emp 1),(.emp 1),(.val (.int .i64 0))])),(none,.op (.store 4 (.tmp 7) (.tmp 37)))]) <|
  .seq (ak [av 38 1 1,au 39 38,aJ 40 39,((some 41),.op (.make 1 8 [(.val (.int .i64 0))] (.tmp 40) (.tmp 40))),aa 8 41]) <|
  .seq (.seq (ak [aF 9 0]) <|
  .block 0 (.loop kC)) <|
  .seq (ak [((some 10),.op (.bm (.val (.emp 1))))]) <|
  .seq (.seq (ak [aF 11 0]) <|
  .block 2 (.loop kA)) <|
  .seq (.seq (ak [aF 13 0]) <|
  .block 4 (.loop kK)) <|
  .seq (ak [aa 158 8,av 159 3 1,au 160 159,aP 161 1 158 160,au 162 161,av 163 3 7,(none,.op (.store 1 (.tmp 163) (.tmp 162)))]) <|
  .seq (ak [aK 164 4 7,aa 165 10,(none,.op (.store 4 (.tmp 2) (.tmp 164))),aa 3 165,aF 4 0]) <|
  .ret,
  [.cell 2 (some 4),.tmp 3,.tmp 4],166⟩
theorem q8:bf Tryz.prog 70 [1]=some mj:=by kernel_rfl
abbrev bP (l:List Int):List (List V):=l.map fun x=>[gi x]
abbrev jg (l:List ByteArray):List (List V):=l.map fun s=>[gs s]
theorem jD {l:List Int} {i:Nat} (h:i < l.length):(bP l).getD i []=[gi l[i]]:=by simp[List.getD_eq_getElem?_getD,h]
theorem ints_set (l:List Int) (i:Nat) (x:Int):(bP l).set i [gi x]=bP (l.set i x):=by simp[List.map_set]
theorem Ob {l:List Int} (h:0 < l.length):bP l≠[]:=by intro e; rw[List.map_eq_nil_iff] at e; rw[e] at h; simp at h
theorem vq {α:Type} {x:α} : ∀ {l:List α} {i:Nat},i < l.length→(l.set i x).take (i+1)=l.take i ++ [x]
  | y :: l,0,_=>by simp
  | y :: l,i+1,h=>by
    have:=vq (x:=x) (l:=l) (i:=i) (by simpa using h)
    simp only[List.set_cons_succ,List.take_succ_cons,this,List.cons_append]
def ey (n:Nat) (o:List Int):List Int:=(List.range n).map fun (x:Nat)=>bp o (x:Int)
theorem Ox (n:Nat):ey n []=List.replicate n (-1):=by
  apply List.ext_getElem
  · simp[ey]
  · intro i h1 h2
    simp[ey,bp,dz]
theorem xU {n:Nat} {o:List Int} {x:Int} (h0:0≤x) (h1:x < n):(ey n o)[x.toNat]'(by simp[ey]; omega)=bp o x:=by
  simp[ey,show ((x.toNat:Nat):Int)=x by omega]
theorem Od {n:Nat} {o:List Int} {x:Int} (h0:0≤x) (h1:x < n) (hx:x ∉ o):(ey n o).set x.toNat o.length=ey n (o ++ [x]):=by
  apply List.ext_getElem
  · simp[ey]
  · intro i h2 h3
    rw[List.getElem_set]
    simp only[ey,List.getElem_map,List.getElem_range]
    rw[J3 hx]
    by_cases e:x.toNat=i
    · rw[if_pos e,if_pos (by omega)]
    · rw[if_neg e,if_neg (by omega)]
abbrev xN:=List (V × aT)
def fV (b:xN):List (List V):=b.map fun x=>[gi x.2.left,x.1,gi x.2.prec]
def kE (b:xN):List ew:=b.map fun x=>(x.1,1,bP x.2.right)
theorem Lg {h:aE} {u:V} {b:xN} (ho:aQ h.view u 3 (fV b)) (hb:∀ x∈kE b,aQ h.view x.1 x.2.1 x.2.2):dN h u (.aZ ((b.map (·.2)).map ba)):=by
  refine dN.own ho (by simp[fV]) (fun i hi=>?_) (fun i j hi hj=>?_)
  all_goals
    simp only[fV,List.length_map] at hi
    have e1:(fV b).getD i []=[gi b[i].2.left,b[i].1,gi b[i].2.prec]:=by simp[fV,List.getD_eq_getElem?_getD,hi]
    have e2:((b.map (·.2)).map ba).getD i []=ba b[i].2:=by simp[List.getD_eq_getElem?_getD,hi]
  · rw[e1,e2]; rfl
  · rw[e1,e2]
    rw[e2] at hj
    have hm:b[i]∈b:=List.getElem_mem _
    have ho:=hb (b[i].1,1,bP b[i].2.right) (List.mem_map.2 ⟨_,hm,rfl⟩)
    match j,hj with
    | 0,_=>exact .val _
    | 1,_=>exact nI ho
    | 2,_=>exact .val _
    | n+3,hj=>exact absurd hj (by simp only[ba,List.length_cons,List.length_nil]; omega)
theorem LX {h:aE} {u:V} {l:List ByteArray} (ho:aQ h.view u 1 (jg l)):dN h u (encS l):=dN.ML (f:=Value.string) ho
theorem KQ {h:aE} {u:V} {l:List Term} (ho:aQ h.view u 3 (l.map cE)):dN h u (dR l):=by
  refine dN.own ho rfl (fun _ _=>rfl) (fun i j hi hj=>?_)
  simp only[List.length_map] at hi
  have e1:(l.map cE).getD i []=cE l[i]:=by simp[List.getD_eq_getElem?_getD,hi]
  rw[e1] at hj ⊢
  match j,hj with
  | 0,_=>exact .val _
  | 1,_=>exact .val _
  | 2,_=>exact .val _
  | n+3,hj=>exact absurd hj (by simp only[cE,List.length_cons,List.length_nil]; omega)
def uq (x:ao × List Int × Int):V:=.bu [.agg (aw x.1),encI x.2.1,gi x.2.2]
theorem uo {h:aE} {e:Int} {k1 k2 k3 k4:Nat} : dN h (.bu [.agg [.emp k1,.emp k2,.emp k3,gi 0],.emp k4,gi e]) (uq (rP,[],e)):=by
  refine .bu _ _ rfl fun i hi=>?_
  match i,hi with
  | 0,_ =>
    refine .agg _ _ rfl fun j hj=>?_
    match j,hj with
    | 0,_=>exact .emp _
    | 1,_=>exact .emp _
    | 2,_=>exact .emp _
    | 3,_=>exact .val _
    | n+4,hj=>exact absurd hj (by simp only[List.length_cons,List.length_nil]; omega)
  | 1,_=>exact .emp _
  | 2,_=>exact .val _
  | n+3,hi=>exact absurd hi (by simp only[List.length_cons,List.length_nil]; omega)
def Pp (g:ao) (p q:List Bool) (b2 b7 b8:Nat) (u0:V) (i:Nat) (T:Env) (H:View):Prop :=
  (∃ u1 u3:V,T 10=u3∧(∀ x∈bN p q (g.rules.take i),0≤x∧x < g.ay.length)∧(bN p q (g.rules.take i)).Nodup∧(bN p q (g.rules.take i)).length≤i ∧
    bg H [(.sl b7 0 1 4,4,[[u0,u1,.emp 1,gi 0]]),(.sl b8 0 g.ay.length 1,1,bP (ey g.ay.length (bN p q (g.rules.take i)))),(u3,1,bP (cn p q (g.rules.take i) 0)),
      (u1,1,jg ((bN p q (g.rules.take i)).map fun x=>g.ay.getD x.toNat ⟨#[]⟩)),(u0,3,g.az.map cE),(.sl b2 0 1 4,4,[[.emp 1,.emp 1,.emp 1,gi 0]])]) ∧
  T 1=.aR (aw g) 0∧T 2=.ptr b2 0 0∧T 5=bO p∧T 6=bO q∧T 7=.ptr b7 0 0∧T 8=.sl b8 0 g.ay.length 1∧T 11=gi i
def Qn (g:ao) (p q:List Bool) (b2 b7 b8:Nat) (u0 u1 u3:V) (o kl:List Int) (i:Nat) (T:Env) (H:View):Prop :=
  (∃ (u2:V) (bs:xN),bs.map (·.2)=((g.rules.filter (bE p q)).take i).map (bk (bp o)) ∧
    bg H ((.sl b7 0 1 4,4,[[u0,u1,u2,gi 0]]) :: (.sl b8 0 g.ay.length 1,1,bP (ey g.ay.length o)) :: (u3,1,bP kl) ::
      (u1,1,jg (o.map fun x=>g.ay.getD x.toNat ⟨#[]⟩)) :: (u0,3,g.az.map cE) :: (u2,3,fV bs) :: (.sl b2 0 1 4,4,[[.emp 1,.emp 1,.emp 1,gi 0]]) :: kE bs)) ∧
  T 1=.aR (aw g) 0∧T 2=.ptr b2 0 0∧T 7=.ptr b7 0 0∧T 8=.sl b8 0 g.ay.length 1∧T 10=u3∧T 13=gi i
def Qy (g:ao) (b2 b7 b8 b14 b15:Nat) (u3:V) (o:List Int) (r:aT) (L:List ew) (i k:Nat) (T:Env) (H:View):Prop :=
  (∃ v:V,bg H ((.sl b15 0 1 3,3,[[gi (bp o r.left),v,gi r.prec]]) :: (v,1,bP ((bk (bp o) r).right.take k)) :: (.sl b14 0 1 3,3,[ba r]) :: L)) ∧
  T 1=.aR (aw g) 0∧T 2=.ptr b2 0 0∧T 7=.ptr b7 0 0∧T 8=.sl b8 0 g.ay.length 1∧T 10=u3∧T 13=gi i∧T 14=.ptr b14 0 0∧T 15=.ptr b15 0 0∧T 16=gi k
theorem GD {h:aE} {u0 u1 u2 u3:V} {x:ao × List Int × Int} {b:xN} (h0:aQ h.view u0 3 (x.1.az.map cE)) (h1:aQ h.view u1 1 (jg x.1.ay)) (h2:aQ h.view u2 3 (fV b)) (hb:∀ y∈kE b,aQ h.view y.1 y.2.1 y.2.2)
    (hr:b.map (·.2)=x.1.rules) (h3:aQ h.view u3 1 (bP x.2.1)):dN h (.bu [.agg [u0,u1,u2,gi x.1.start],u3,gi x.2.2]) (uq x):=by
  refine .bu _ _ rfl fun i hi=>?_
  match i,hi with
  | 0,_ =>
    refine .agg _ _ rfl fun j hj=>?_
    match j,hj with
    | 0,_=>exact KQ h0
    | 1,_=>exact LX h1
    | 2,_=>have:=Lg h2 hb; rw[hr] at this; exact this
    | 3,_=>exact .val _
    | n+4,hj=>exact absurd hj (by simp only[List.length_cons,List.length_nil]; omega)
  | 1,_=>exact nI h3
  | 2,_=>exact .val _
  | n+3,hi=>exact absurd hi (by simp only[List.length_cons,List.length_nil]; omega)
set_option maxHeartbeats 8000000 in
theorem Gn (g:ao) (hg:g.Ok):dE Tryz.prog 70 [.agg (aw g)] (uq (fi g)):=by
  refine dE.of (eN g) ?_
  refine aC.of mixed q8 ?_
  simp (disch:=omega) only [↓wr,↓reduceIte,wq,ah,ag,aj,ab,ae,af,ai,isNil,Nat.reduceEqDiff,Nat.reduceAdd,Nat.reduceLT,Nat.reduceLeDiff,Int.reduceNeg,Int.reduceToNat,reduceCtorEq,mj,aw,encS]
  intro b2
  try simp (disch:=omega) only [↓wr,↓reduceIte,wq,ah,ag,aj,ab,ae,af,ai,isNil,Nat.reduceEqDiff,Nat.reduceAdd,Nat.reduceLT,Nat.reduceLeDiff,Int.reduceNeg,Int.reduceToNat,reduceCtorEq,aw,encS]
  refine aG.pure (ue g hg) (by kernel_rfl) ?_
  repeat' (first | (refine ax.dec (fun _=>?_) (fun _=>?_)) | (refine ax.eq (fun _=>?_) (fun _=>?_)) | (refine ax.ne (fun _=>?_) (fun _=>?_)) | (refine ax.split (fun _=>?_) (fun _=>?_)) | (simp (disch:=omega) only [↓wr,↓reduceIte,wq,ah,ag,aj,ab,ae,af,ai,isNil,Nat.reduceEqDiff,Nat.reduceAdd,Nat.reduceLT,Nat.reduceLeDiff,Int.reduceNeg,Int.reduceToNat,reduceCtorEq,aw,encS,set_set]))
  · rename_i hr
    refine aG.pure (rr g hg) (by kernel_rfl) ?_
    simp (disch:=omega) only [↓wr,↓reduceIte,wq,ah,ag,aj,ab,ae,af,ai,isNil,Nat.reduceEqDiff,Nat.reduceAdd,Nat.reduceLT,Nat.reduceLeDiff,Int.reduceNeg,Int.reduceToNat,reduceCtorEq,aw,encS]
    refine aG.pure (Bq g hg).pure (by kernel_rfl) ?_
    have hf:=bL hr
    have h3:=hf.jJ
    have h4:=hf.start
    have hpl:=iS hr true
    have hql:=og hr
    have hred:=xF hr
    generalize aM g true=p at hpl hred
    generalize bH g=q at hql hred
    have hps:p[g.start.toNat]?=some (p[g.start.toNat]'(by omega)):=List.getElem?_eq_getElem (by omega)
    have hpd:p.getD g.start.toNat false=p[g.start.toNat]'(by omega):=by simp[List.getD_eq_getElem?_getD,hps]
    generalize p[g.start.toNat]'(by omega)=s at hps hpd
    rw[hpd] at hred
    simp (disch:=omega) only [↓wr,↓reduceIte,wq,ah,ag,aj,ab,ae,af,ai,isNil,Nat.reduceEqDiff,Nat.reduceAdd,Nat.reduceLT,Nat.reduceLeDiff,Int.reduceNeg,Int.reduceToNat,reduceCtorEq,aw,encS,bO,List.getElem?_map,hps]
    cases s with
    | false =>
      rw[if_neg (by simp)] at hred
      simp (disch:=omega) only [↓wr,↓reduceIte,wq,ah,ag,aj,ab,ae,af,ai,isNil,Nat.reduceEqDiff,Nat.reduceAdd,Nat.reduceLT,Nat.reduceLeDiff,Int.reduceNeg,Int.reduceToNat,reduceCtorEq,aw,encS,set_set]
      rintro h' hh
      rw[hred]
      exact uo
    | true =>
      rw[if_pos rfl] at hred
      simp (disch:=omega) only [↓wr,↓reduceIte,wq,ah,ag,aj,ab,ae,af,ai,isNil,Nat.reduceEqDiff,Nat.reduceAdd,Nat.reduceLT,Nat.reduceLeDiff,Int.reduceNeg,Int.reduceToNat,reduceCtorEq,aw,encS,set_set]
      have hN:=hf.ay
      have hN1:=hf.rQ
      have hT:=hf.az
      have hR:=hf.rules
      refine dK (L:=[(.sl b2 0 1 4,4,[[.emp 1,.emp 1,.emp 1,gi 0]])]) (bg.emp (bg.nil.new rfl 4 _)) (by simp[cE,aV]) (by unfold aO; simp; omega) (by unfold aO; simp; omega) ?_
      intro u0 H1 ho1 _
      have c0:=ho1.head.cells
      have k0:=ho1.head.kg
      simp (disch:=omega) only [↓wr,↓reduceIte,wq,ah,ag,aj,ab,ae,af,ai,isNil,Nat.reduceEqDiff,Nat.reduceAdd,Nat.reduceLT,Nat.reduceLeDiff,Int.reduceNeg,Int.reduceToNat,reduceCtorEq,aw,encS,c0,k0]
      intro b7 hb7
      have ho2:=ho1.new hb7 4 [[u0,.emp 1,.emp 1,gi 0]]
      try simp (disch:=omega) only [↓wr,↓reduceIte,wq,ah,ag,aj,ab,ae,af,ai,isNil,Nat.reduceEqDiff,Nat.reduceAdd,Nat.reduceLT,Nat.reduceLeDiff,Int.reduceNeg,Int.reduceToNat,reduceCtorEq,aw,encS,c0,k0,set_set]
      refine ⟨⟨by omega,by unfold aO; omega,by unfold aO; omega⟩,fun h=>by omega,?_⟩
      intro _ b8 hb8
      have hb87:=(cR hb8 cK).1
      have ho3:=ho2.new (n:=b8) (by simp only[View.set,if_neg hb87]; exact (cR (cR hb8 cK).2 cK).2) 1 (bP (List.replicate g.ay.length 0))
      try simp (disch:=omega) only [↓wr,↓reduceIte,wq,ah,ag,aj,ab,ae,af,ai,isNil,Nat.reduceEqDiff,Nat.reduceAdd,Nat.reduceLT,Nat.reduceLeDiff,Int.reduceNeg,Int.reduceToNat,reduceCtorEq,aw,encS,c0,k0,set_set]
      refine bz.up g.ay.length (fun i T H=>(∃ l:List Int,l.length=g.ay.length∧l.take i=List.replicate i (-1) ∧
        bg H [(.sl b8 0 g.ay.length 1,1,bP l),(.sl b7 0 1 4,4,[[u0,.emp 1,.emp 1,gi 0]]),(u0,3,g.az.map cE),(.sl b2 0 1 4,4,[[.emp 1,.emp 1,.emp 1,gi 0]])]) ∧
        T 1=.aR (aw g) 0∧T 2=.ptr b2 0 0∧T 5=bO p∧T 6=bO q∧T 7=.ptr b7 0 0∧T 8=.sl b8 0 g.ay.length 1∧T 9=gi i) ?_ ?_
      · exact ⟨⟨List.replicate g.ay.length 0,by simp,by simp,by simpa [set_set] using ho3⟩,rfl,rfl,rfl,rfl,rfl,rfl,rfl⟩
      rintro i k T H2 hk ⟨⟨l,hl1,hl2,ho⟩,t1,t2,t5,t6,t7,t8,t9⟩
      simp (disch:=omega) only [↓wr,↓reduceIte,wq,ah,ag,aj,ab,ae,af,ai,isNil,Nat.reduceEqDiff,Nat.reduceAdd,Nat.reduceLT,Nat.reduceLeDiff,Int.reduceNeg,Int.reduceToNat,reduceCtorEq,kC,t1,t2,t5,t6,t7,t8,t9]
      refine ax.dec (fun hc=>?_) (fun hc=>?_)
      · have hne:bP l≠[]:=by intro e; rw[List.map_eq_nil_iff] at e; rw[e] at hl1; simp at hl1; omega
        have hb:=(ho.obj hne).1
        have hbg:=jD (show i < l.length by omega)
        simp (disch:=omega) only [↓wr,↓reduceIte,wq,ah,ag,aj,ab,ae,af,ai,isNil,Nat.reduceEqDiff,Nat.reduceAdd,Nat.reduceLT,Nat.reduceLeDiff,Int.reduceNeg,Int.reduceToNat,reduceCtorEq,t1,t2,t5,t6,t7,t8,t9,hb,hbg,List.length_map]
        refine ⟨by omega,by omega,?_⟩
        refine bq hk (by omega) ⟨⟨l.set i (-1),by simp[hl1],?_,?_⟩,t1,t2,t5,t6,t7,t8,rfl⟩
        · rw[vq (by omega),hl2,List.replicate_succ']
        · rw[ints_set]
          exact ho.put (by simp) (by simp[hl1])
      · rw[List.take_of_length_le (by omega)] at hl2
        rw[hl2] at ho
        have ei:i=g.ay.length:=by omega
        subst ei
        simp (disch:=omega) only [↓wr,↓reduceIte,wq,ah,ag,aj,ab,ae,af,ai,isNil,Nat.reduceEqDiff,Nat.reduceAdd,Nat.reduceLT,Nat.reduceLeDiff,Int.reduceNeg,Int.reduceToNat,reduceCtorEq,t1,t2,t5,t6,t7,t8,t9]
        have name_in:∀ o:List Int,(o.map fun x=>g.ay.getD x.toNat ⟨#[]⟩).length=o.length:=fun o=>by simp
        refine bz.up g.rules.length (Pp g p q b2 b7 b8 u0) ?_ ?_
        · refine ⟨⟨.emp 1,.emp 1,rfl,by simp[bN],by simp[bN],by simp[bN],?_⟩,t1,t2,t5,t6,t7,t8,rfl⟩
          have h4:=((((ho.emp (k:=1) (sz:=1)).emp (k:=1) (sz:=1)).at 3 (by simp)).perm (Iu.symm.cons _))
          have e0:bN p q (g.rules.take 0)=[]:=rfl
          rw[e0,Ox]
          exact h4
        clear ho t1 t2 t5 t6 t7 t8 t9 hl1 hl2
        rintro i k T H2 hk ⟨⟨u1,u3,t10,hin,hnd,holen,ho⟩,t1,t2,t5,t6,t7,t8,t11⟩
        simp (disch:=omega) only [↓wr,↓reduceIte,wq,ah,ag,aj,ab,ae,af,ai,isNil,Nat.reduceEqDiff,Nat.reduceAdd,Nat.reduceLT,Nat.reduceLeDiff,Int.reduceNeg,Int.reduceToNat,reduceCtorEq,kA,t1,t2,t5,t6,t7,t8,t10,t11,aw]
        refine ax.dec (fun hc=>?_) (fun hc=>?_)
        · have hg2:g.rules[i]?=some (g.rules[i]'(by omega)):=List.getElem?_eq_getElem (by omega)
          have hmem:g.rules[i]'(by omega)∈g.rules:=List.getElem_mem _
          have htk:g.rules.take (i+1)=g.rules.take i ++ [g.rules[i]'(by omega)]:=by rw[List.take_add_one,hg2]; rfl
          generalize g.rules[i]'(by omega)=r at hg2 hmem htk
          obtain ⟨hl1,hl2,hl3,hr6,hsy⟩:=hf.tP hg hmem
          have hqs:q[r.left.toNat]?=some (q[r.left.toNat]'(by omega)):=List.getElem?_eq_getElem (by omega)
          have hqd:q.getD r.left.toNat false=q[r.left.toNat]'(by omega):=by simp[List.getD_eq_getElem?_getD,hqs]
          generalize q[r.left.toNat]'(by omega)=qs at hqs hqd
          simp (disch:=omega) only [↓wr,↓reduceIte,wq,ah,ag,aj,ab,ae,af,ai,isNil,Nat.reduceEqDiff,Nat.reduceAdd,Nat.reduceLT,Nat.reduceLeDiff,Int.reduceNeg,Int.reduceToNat,reduceCtorEq,t1,t2,t5,t6,t7,t8,t10,t11,aw,ba,List.getElem?_map,hg2]
          intro b12 hb12
          have hoA:=ho.new hb12 3 [ba r]
          try simp (disch:=omega) only [↓wr,↓reduceIte,wq,ah,ag,aj,ab,ae,af,ai,isNil,Nat.reduceEqDiff,Nat.reduceAdd,Nat.reduceLT,Nat.reduceLeDiff,Int.reduceNeg,Int.reduceToNat,reduceCtorEq,t1,t2,t5,t6,t7,t8,t10,t11,ba,encI,bO,List.getElem?_map,hqs,set_set]
          have hskip:∀ (T2:Env) (H':View),bE p q r=false→H'=H2.set b12 (.arr 3 [ba r])→T2 10=u3→T2 1=.aR (aw g) 0→T2 2=.ptr b2 0 0→T2 5=bO p→T2 6=bO q→T2 7=.ptr b7 0 0→T2 8=.sl b8 0 g.ay.length 1→T2 11=gi ((i:Int)+1) →
              ∃ k',k' < k∧CP g.rules.length k' (Pp g p q b2 b7 b8 u0) T2 H':=by
            intro T2 H' hkr hH' a10 a1 a2 a5 a6 a7 a8 a11
            have e1:bN p q (g.rules.take (i+1))=bN p q (g.rules.take i):=by rw[htk,rv,if_neg (by simp[hkr])]
            have e2:cn p q (g.rules.take (i+1)) 0=cn p q (g.rules.take i) 0:=by rw[htk,jM]; simp[cn,hkr]
            refine bq hk (by omega) ⟨⟨u1,u3,a10,by rw[e1]; exact hin,by rw[e1]; exact hnd,by rw[e1]; omega,by rw[e1,e2,hH']; exact hoA.tail⟩,a1,a2,a5,a6,a7,a8,by rw[a11]; rfl⟩
          cases qs with
          | false =>
            simp (disch:=omega) only [↓wr,↓reduceIte,wq,ah,ag,aj,ab,ae,af,ai,isNil,Nat.reduceEqDiff,Nat.reduceAdd,Nat.reduceLT,Nat.reduceLeDiff,Int.reduceNeg,Int.reduceToNat,reduceCtorEq,t1,t2,t5,t6,t7,t8,t10,t11]
            refine hskip _ _ (by rw[bE,hqd]; rfl) ?_ ?_ ?_ ?_ ?_ ?_ ?_ ?_ ?_
            all_goals first | exact t10 | exact t1 | exact t2 | exact t5 | exact t6 | exact t7 | exact t8 | rfl | (rw[set_set]; rfl)
          | true =>
            simp (disch:=omega) only [↓wr,↓reduceIte,wq,ah,ag,aj,ab,ae,af,ai,isNil,Nat.reduceEqDiff,Nat.reduceAdd,Nat.reduceLT,Nat.reduceLeDiff,Int.reduceNeg,Int.reduceToNat,reduceCtorEq,t1,t2,t5,t6,t7,t8,t10,t11,ba,encI,bO]
            refine aG.pure (Ez r.right p true (hg.aH r hmem).2.2.1 (fun s hs=>⟨(hsy s hs).1,fun h=>by rw[hpl]; exact (hsy s hs).2 h⟩)) (by kernel_rfl) ?_
            simp (disch:=omega) only [↓wr,↓reduceIte,wq,ah,ag,aj,ab,ae,af,ai,isNil,Nat.reduceEqDiff,Nat.reduceAdd,Nat.reduceLT,Nat.reduceLeDiff,Int.reduceNeg,Int.reduceToNat,reduceCtorEq,t1,t2,t5,t6,t7,t8,t10,t11]
            refine ax.split (fun hal=>?_) (fun hal=>?_)
            · simp (disch:=omega) only [↓wr,↓reduceIte,wq,ah,ag,aj,ab,ae,af,ai,isNil,Nat.reduceEqDiff,Nat.reduceAdd,Nat.reduceLT,Nat.reduceLeDiff,Int.reduceNeg,Int.reduceToNat,reduceCtorEq,t1,t2,t5,t6,t7,t8,t10,t11]
              have hkr:bE p q r=true:=by rw[bE,hqd,hal]; rfl
              intro m hm
              try simp (disch:=omega) only [↓wr,↓reduceIte,wq,ah,ag,aj,ab,ae,af,ai,isNil,Nat.reduceEqDiff,Nat.reduceAdd,Nat.reduceLT,Nat.reduceLeDiff,Int.reduceNeg,Int.reduceToNat,reduceCtorEq,t1,t2,t5,t6,t7,t8,t10,t11,cy]
              have hm12:=(cR hm cK).1
              have hm:=(cR (cR hm cK).2 cK).2
              have hoB:=(hoA.fresh (n:=m) (o:=.arr 1 [[gi i]]) (by simp only[View.set,if_neg hm12]; exact hm)).at 3 (by simp)
              have hkl:(cn p q (g.rules.take i) 0).length≤40:=by
                rw[jx]
                have h1:=List.length_filter_le (bE p q) (g.rules.take i)
                have h2:(g.rules.take i).length≤i:=List.length_take_le _ _
                have:=hf.rules
                omega
              refine dK (by rw[set_set]; exact hoB) (by simp[aV]) (by unfold aO; simp at hkl ⊢; omega) (by unfold aO; simp at hkl ⊢; omega) ?_
              intro u3' H3 ho3 _
              have f12:=((ho3.at 1 (by simp)).obj (by simp)).1
              have f7:=((ho3.at 2 (by simp)).obj (by simp)).1
              have f8:=((ho3.at 3 (by simp)).obj (Ob (by simp[ey]; omega))).1
              have hu1:cq u1=some (jg ((bN p q (g.rules.take i)).map fun x=>g.ay.getD x.toNat ⟨#[]⟩)).length:=(ho3.at 4 (by simp)).head.len
              have hbg:=jD (l:=ey g.ay.length (bN p q (g.rules.take i))) (i:=r.left.toNat) (by simp[ey]; omega)
              rw[xU hl2 hl3] at hbg
              simp only[ba,encI] at f12
              simp (disch:=omega) only [↓wr,↓reduceIte,wq,ah,ag,aj,ab,ae,af,ai,isNil,Nat.reduceEqDiff,Nat.reduceAdd,Nat.reduceLT,Nat.reduceLeDiff,Int.reduceNeg,Int.reduceToNat,reduceCtorEq,t1,t2,t5,t6,t7,t8,t11,f12,f7,f8,hbg]
              refine ⟨by omega,by simp[ey]; omega,?_⟩
              have e2:cn p q (g.rules.take (i+1)) 0=cn p q (g.rules.take i) 0 ++ [(i:Int)]:=by
                rw[htk,jM]; simp[cn,hkr,show i≤g.rules.length by omega]
              have e1:bN p q (g.rules.take (i+1))=dA (bN p q (g.rules.take i)) r:=by rw[htk,rv,if_pos hkr]
              generalize bN p q (g.rules.take i)=o at *
              generalize cn p q (g.rules.take i) 0=kl at *
              refine ax.dec (fun hlt=>?_) (fun hlt=>?_)
              · have hx:r.left ∉ o:=qm.1 hlt
                have e1':dA o r=o ++ [r.left]:=by rw[dA,if_neg hx]
                have hne78:b7≠b8:=ho3.Lw 2 3 rfl rfl (by omega)
                have hne12:b12≠b8:=ho3.Lw 1 3 rfl rfl (by omega)
                have hgn:g.ay[r.left.toNat]?=some (g.ay[r.left.toNat]'(by omega)):=List.getElem?_eq_getElem (by omega)
                have hgnd:g.ay.getD r.left.toNat ⟨#[]⟩=g.ay[r.left.toNat]'(by omega):=by simp[List.getD_eq_getElem?_getD,hgn]
                generalize g.ay[r.left.toNat]'(by omega)=nm at hgn hgnd
                simp (disch:=omega) only [↓wr,↓reduceIte,wq,ah,ag,aj,ab,ae,af,ai,isNil,Nat.reduceEqDiff,Nat.reduceAdd,Nat.reduceLT,Nat.reduceLeDiff,Int.reduceNeg,Int.reduceToNat,reduceCtorEq,t1,t2,t5,t6,t7,t8,t11,f12,f7,f8,hbg,hu1,List.length_map]
                try refine ⟨by omega,by simp[ey]; omega,?_⟩
                try simp (disch:=omega) only [↓wr,↓reduceIte,wq,ah,ag,aj,ab,ae,af,ai,isNil,Nat.reduceEqDiff,Nat.reduceAdd,Nat.reduceLT,Nat.reduceLeDiff,Int.reduceNeg,Int.reduceToNat,reduceCtorEq,t1,t2,t5,t6,t7,t8,t11,f12,f7,f8,hbg,hu1,List.length_map,hne78,hne12,aw,encS,List.getElem?_map,hgn]
                intro m2 hm2
                have hm28:=(cR hm2 cK).1
                have hm2:=(cR hm2 cK).2
                have hes:(bP (ey g.ay.length o)).set r.left.toNat [gi o.length]=bP (ey g.ay.length (o ++ [r.left])):=by rw[ints_set,Od hl2 hl3 hx]
                have ho4:=(ho3.at 3 (by simp)).put (es':=(bP (ey g.ay.length o)).set r.left.toNat [gi o.length]) (by simp) (by simp[ey])
                have ho5:=(ho4.fresh (n:=m2) (o:=.arr 1 [[gs nm]]) (by simp only[View.set,if_neg hm28]; exact hm2)).at 4 (by simp)
                have hN16:o.length≤40:=by omega
                try simp (disch:=omega) only [↓wr,↓reduceIte,wq,ah,ag,aj,ab,ae,af,ai,isNil,Nat.reduceEqDiff,Nat.reduceAdd,Nat.reduceLT,Nat.reduceLeDiff,Int.reduceNeg,Int.reduceToNat,reduceCtorEq,t1,t2,t5,t6,t7,t8,t11,f12,f7,f8,hbg,hu1,List.length_map,hne78,hne12,cy]
                refine dK ho5 (by simp[aV]) (by unfold aO; simp; omega) (by unfold aO; simp; omega) ?_
                intro u1' H5 ho6 _
                have c1:=ho6.head.cells
                have k1:=ho6.head.kg
                have f7':=((ho6.at 4 (by simp)).obj (by simp)).1
                simp (disch:=omega) only [↓wr,↓reduceIte,wq,ah,ag,aj,ab,ae,af,ai,isNil,Nat.reduceEqDiff,Nat.reduceAdd,Nat.reduceLT,Nat.reduceLeDiff,Int.reduceNeg,Int.reduceToNat,reduceCtorEq,t1,t2,t5,t6,t7,t8,t11,f7',c1,k1]
                have ho7:=(ho6.at 4 (by simp)).put (es':=[[u0,u1',.emp 1,gi 0]]) rfl rfl
                have ho8:=(((ho7.at 4 (by simp)).tail).perm (Iu.cons _))
                refine bq hk (by omega) ⟨⟨u1',u3',rfl,?_,?_,?_,?_⟩,t1,t2,t5,t6,t7,t8,rfl⟩
                · rw[e1,e1']; intro x hx'; rcases List.mem_append.1 hx' with h | h
                  · exact hin x h
                  · simp at h; subst h; exact ⟨hl2,hl3⟩
                · rw[e1]; exact HV hnd
                · rw[e1,e1']; simp; omega
                · rw[e1,e1',e2]
                  have:=ho8
                  rw[hes] at this
                  simp only[List.map_append,List.map_cons,List.map_nil,hgnd]
                  exact this
              · have hx:r.left∈o:=by
                  refine Classical.byContradiction fun h=>?_
                  have:=qm.2 h
                  omega
                have e1':dA o r=o:=by rw[dA,if_pos hx]
                simp (disch:=omega) only [↓wr,↓reduceIte,wq,ah,ag,aj,ab,ae,af,ai,isNil,Nat.reduceEqDiff,Nat.reduceAdd,Nat.reduceLT,Nat.reduceLeDiff,Int.reduceNeg,Int.reduceToNat,reduceCtorEq,t1,t2,t5,t6,t7,t8,t11]
                have ho4:=(((ho3.at 1 (by simp)).tail).perm Iu)
                refine bq hk (by omega) ⟨⟨u1,u3',rfl,?_,?_,?_,?_⟩,t1,t2,t5,t6,t7,t8,rfl⟩
                · rw[e1,e1']; exact hin
                · rw[e1,e1']; exact hnd
                · rw[e1,e1']; omega
                · rw[e1,e1',e2]
                  simp only[List.map_append,List.map_cons,List.map_nil]
                  exact ho4
            · simp (disch:=omega) only [↓wr,↓reduceIte,wq,ah,ag,aj,ab,ae,af,ai,isNil,Nat.reduceEqDiff,Nat.reduceAdd,Nat.reduceLT,Nat.reduceLeDiff,Int.reduceNeg,Int.reduceToNat,reduceCtorEq,t1,t2,t5,t6,t7,t8,t10,t11]
              refine hskip _ _ (by rw[bE,hqd,hal]; rfl) ?_ ?_ ?_ ?_ ?_ ?_ ?_ ?_ ?_
              all_goals first | exact t10 | exact t1 | exact t2 | exact t5 | exact t6 | exact t7 | exact t8 | rfl | (rw[set_set]; rfl)
        · rw[List.take_of_length_le (by omega)] at ho hin hnd holen
          have hkl40:(cn p q g.rules 0).length≤40:=by
            rw[jx]; have h1:=List.length_filter_le (bE p q) g.rules; omega
          have hkg:=rj p q g.rules 0
          have hkln:=jx p q g.rules 0
          have hstin:g.start.toNat < (ey g.ay.length (bN p q g.rules)).length:=by simp[ey]; omega
          have hstb:=jD hstin
          rw[xU h3 h4] at hstb
          have hrg:kp g (bp (bN p q g.rules)) p q=⟨g.az,(bN p q g.rules).map fun x=>g.ay.getD x.toNat ⟨#[]⟩,(g.rules.filter (bE p q)).map (bk (bp (bN p q g.rules))),bp (bN p q g.rules) g.start⟩:=rfl
          rw[hrg] at hred
          clear hrg
          generalize bN p q g.rules=o at *
          generalize cn p q g.rules 0=kl at *
          simp (disch:=omega) only [↓wr,↓reduceIte,wq,ah,ag,aj,ab,ae,af,ai,isNil,Nat.reduceEqDiff,Nat.reduceAdd,Nat.reduceLT,Nat.reduceLeDiff,Int.reduceNeg,Int.reduceToNat,reduceCtorEq,t1,t2,t5,t6,t7,t8,t10,t11]
          refine bz.up kl.length (Qn g p q b2 b7 b8 u0 u1 u3 o kl) ?_ ?_
          · refine ⟨⟨.emp 1,[],by simp,?_⟩,t1,t2,t7,t8,t10,rfl⟩
            exact (ho.emp (k:=1) (sz:=3)).perm (qj [(.sl b7 0 1 4,4,[[u0,u1,.emp 1,gi 0]]),(.sl b8 0 g.ay.length 1,1,bP (ey g.ay.length o)),(u3,1,bP kl),(u1,1,jg (o.map fun x=>g.ay.getD x.toNat ⟨#[]⟩)),(u0,3,g.az.map cE),(.emp 1,3,[]),(.sl b2 0 1 4,4,[[.emp 1,.emp 1,.emp 1,gi 0]])] 5 (by simp)).symm
          clear ho t1 t2 t5 t6 t7 t8 t10 t11
          rintro i k T H2 hk ⟨⟨u2,bs,hbs,ho⟩,t1,t2,t7,t8,t10,t13⟩
          have hu3:cq u3=some (bP kl).length:=(ho.own 2 rfl).len
          simp (disch:=omega) only [↓wr,↓reduceIte,wq,ah,ag,aj,ab,ae,af,ai,isNil,Nat.reduceEqDiff,Nat.reduceAdd,Nat.reduceLT,Nat.reduceLeDiff,Int.reduceNeg,Int.reduceToNat,reduceCtorEq,kK,t1,t2,t7,t8,t10,t13,hu3,List.length_map]
          refine ax.dec (fun hc=>?_) (fun hc=>?_)
          · obtain ⟨n3,e3,hn3⟩:=(ho.own 2 rfl).sl (by simp; omega)
            rw[List.length_map] at e3
            subst e3
            obtain ⟨m,hm1,hm2,hm3⟩:=hkg i (by omega)
            have hbg:=jD (show i < kl.length by omega)
            rw[Int.zero_add] at hm1
            have hki:kl[i]'(by omega)=(m:Int):=by
              rw[List.getElem?_eq_getElem (show i < kl.length by omega)] at hm1; simpa using hm1
            rw[hki] at hbg
            have hg2:g.rules[m]?=some (g.rules[m]'hm3):=List.getElem?_eq_getElem hm3
            have hmem:g.rules[m]'hm3∈g.rules:=List.getElem_mem _
            have htk:(g.rules.filter (bE p q)).take (i+1)=(g.rules.filter (bE p q)).take i ++ [g.rules[m]'hm3]:=by
              rw[List.take_add_one,← hm2,hg2]; rfl
            generalize g.rules[m]'hm3=r at hg2 hmem htk
            obtain ⟨hl1,hl2,hl3,hr6,hsy⟩:=hf.tP hg hmem
            simp (disch:=omega) only [↓wr,↓reduceIte,wq,ah,ag,aj,ab,ae,af,ai,isNil,Nat.reduceEqDiff,Nat.reduceAdd,Nat.reduceLT,Nat.reduceLeDiff,Int.reduceNeg,Int.reduceToNat,reduceCtorEq,t1,t2,t7,t8,t10,t13,hn3,hbg,List.length_map,aw,ba,List.getElem?_map,hg2]
            refine ⟨by omega,by omega,?_⟩
            intro b14 hb14
            have hoA:=ho.new hb14 3 [ba r]
            have f8:=hoA.is 2 rfl (by simp[ey]; omega)
            have hbg2:=jD (l:=ey g.ay.length o) (i:=r.left.toNat) (by simp[ey]; omega)
            rw[xU hl2 hl3] at hbg2
            have hn814:b8≠b14:=hoA.Lw 2 0 rfl rfl (by omega)
            have g8:H2 b8=.arr 1 (bP (ey g.ay.length o)):=ho.is 1 rfl (by simp[ey]; omega)
            try simp (disch:=omega) only [↓wr,↓reduceIte,wq,ah,ag,aj,ab,ae,af,ai,isNil,Nat.reduceEqDiff,Nat.reduceAdd,Nat.reduceLT,Nat.reduceLeDiff,Int.reduceNeg,Int.reduceToNat,reduceCtorEq,t1,t2,t7,t8,t10,t13,g8,hn814,hbg2,List.length_map,set_set,encI]
            refine ⟨by omega,by simp[ey]; omega,?_⟩
            intro b15 hb15
            have hbne:=(cR hb15 cK).1
            have hb15:=(cR (cR hb15 cK).2 cK).2
            have hoB:=(((hoA.new (n:=b15) (by simp only[View.set,if_neg hbne]; exact hb15) 3 [[gi (bp o r.left),.emp 1,gi r.prec]]).emp (k:=1) (sz:=1)).perm (.swap _ _ _))
            generalize hL:((V.sl b7 0 1 4,4,[[u0,u1,u2,gi 0]]) :: (V.sl b8 0 g.ay.length 1,1,bP (ey g.ay.length o)) :: (V.sl n3 0 kl.length 1,1,bP kl) ::
              (u1,1,jg (o.map fun x=>g.ay.getD x.toNat ⟨#[]⟩)) :: (u0,3,g.az.map cE) :: (u2,3,fV bs) :: (V.sl b2 0 1 4,4,[[V.emp 1,V.emp 1,V.emp 1,gi 0]]) :: kE bs:List ew)=L at hoB
            have hL1:L[1]?=some (.sl b8 0 g.ay.length 1,1,bP (ey g.ay.length o)):=by rw[← hL]; rfl
            try simp (disch:=omega) only [↓wr,↓reduceIte,wq,ah,ag,aj,ab,ae,af,ai,isNil,Nat.reduceEqDiff,Nat.reduceAdd,Nat.reduceLT,Nat.reduceLeDiff,Int.reduceNeg,Int.reduceToNat,reduceCtorEq,t1,t2,t7,t8,t10,t13,set_set]
            refine bz.up r.right.length (Qy g b2 b7 b8 b14 b15 (.sl n3 0 kl.length 1) o r L i) ?_ ?_
            · exact ⟨⟨.emp 1,by rw[set_set,set_set]; exact hoB⟩,t1,t2,t7,t8,t10,t13,rfl,rfl,rfl⟩
            clear hoA hoB f8 g8 hb14 hb15 t1 t2 t7 t8 t10 t13
            rintro k k2 T H3 hk2 ⟨⟨v,hoC⟩,t1,t2,t7,t8,t10,t13,t14,t15,t16⟩
            have f14:=hoC.is 2 rfl (by simp)
            have f15:=hoC.is 0 rfl (by simp)
            have f8:H3 b8=.arr 1 (bP (ey g.ay.length o)):=hoC.is 4 (by simpa using hL1) (by simp[ey]; omega)
            simp only[ba] at f14
            simp (disch:=omega) only [↓wr,↓reduceIte,wq,ah,ag,aj,ab,ae,af,ai,isNil,Nat.reduceEqDiff,Nat.reduceAdd,Nat.reduceLT,Nat.reduceLeDiff,Int.reduceNeg,Int.reduceToNat,reduceCtorEq,kF,t1,t2,t7,t8,t10,t13,t14,t15,t16,f14,encI]
            refine ax.dec (fun hcc=>?_) (fun hcc=>?_)
            · have hgs:r.right[k]?=some (r.right[k]'(by omega)):=List.getElem?_eq_getElem (by omega)
              have hms:r.right[k]'(by omega)∈r.right:=List.getElem_mem _
              have hts:(bk (bp o) r).right.take (k+1)=(bk (bp o) r).right.take k ++ [if r.right[k]'(by omega) < 0 then -1 - bp o (-1 - r.right[k]'(by omega)) else r.right[k]'(by omega)]:=by
                rw[List.take_add_one]; simp[bk,hgs]
              have hlk:((bk (bp o) r).right.take k).length≤6:=by
                have h1:(bk (bp o) r).right.length=r.right.length:=by simp[bk]
                have h2:((bk (bp o) r).right.take k).length≤(bk (bp o) r).right.length:=by rw[List.length_take]; omega
                omega
              generalize r.right[k]'(by omega)=s at hgs hms hts
              obtain ⟨⟨s1,s2⟩,s3⟩:=hsy s hms
              simp (disch:=omega) only [↓wr,↓reduceIte,wq,ah,ag,aj,ab,ae,af,ai,isNil,Nat.reduceEqDiff,Nat.reduceAdd,Nat.reduceLT,Nat.reduceLeDiff,Int.reduceNeg,Int.reduceToNat,reduceCtorEq,t1,t2,t7,t8,t10,t13,t14,t15,t16,f14,encI,List.getElem?_map,hgs]
              have hbd:=Bl o (-1 - s)
              have hob:o.length≤40:=by omega
              refine ax.dec (fun hneg=>?_) (fun hneg=>?_)
              · rw[if_pos hneg] at hts
                have hin1:=s3 hneg
                have hbg3:=jD (l:=ey g.ay.length o) (i:=(-1 - s).toNat) (by simp[ey]; omega)
                rw[xU (by omega) hin1] at hbg3
                simp (disch:=omega) only [↓wr,↓reduceIte,wq,ah,ag,aj,ab,ae,af,ai,isNil,Nat.reduceEqDiff,Nat.reduceAdd,Nat.reduceLT,Nat.reduceLeDiff,Int.reduceNeg,Int.reduceToNat,reduceCtorEq,t1,t2,t7,t8,t10,t13,t14,t15,t16,f14,f15,f8,hbg3,List.length_map]
                refine ⟨by omega,by simp[ey]; omega,?_⟩
                intro m hm
                try simp (disch:=omega) only [↓wr,↓reduceIte,wq,ah,ag,aj,ab,ae,af,ai,isNil,Nat.reduceEqDiff,Nat.reduceAdd,Nat.reduceLT,Nat.reduceLeDiff,Int.reduceNeg,Int.reduceToNat,reduceCtorEq,t1,t2,t7,t8,t10,t13,t14,t15,t16,cy]
                have hoD:=(hoC.fresh (o:=.arr 1 [[gi (-1 - bp o (-1 - s))]]) hm).at 1 (by simp)
                refine dK hoD (by simp[aV]) (by unfold aO; simp at hlk ⊢; omega) (by unfold aO; simp at hlk ⊢; omega) ?_
                intro v' H4 hoE _
                have cv:=hoE.head.cells
                have kv:=hoE.head.kg
                have f15':=hoE.is 1 rfl (by simp)
                simp (disch:=omega) only [↓wr,↓reduceIte,wq,ah,ag,aj,ab,ae,af,ai,isNil,Nat.reduceEqDiff,Nat.reduceAdd,Nat.reduceLT,Nat.reduceLeDiff,Int.reduceNeg,Int.reduceToNat,reduceCtorEq,t1,t2,t7,t8,t10,t13,t14,t15,t16,f15',cv,kv]
                have hoF:=(hoE.at 1 (by simp)).put (es':=[[gi (bp o r.left),v',gi r.prec]]) rfl rfl
                refine bq hk2 (by omega) ⟨⟨v',?_⟩,t1,t2,t7,t8,t10,t13,t14,t15,rfl⟩
                rw[hts]
                simp only[List.map_append,List.map_cons,List.map_nil]
                exact hoF
              · rw[if_neg hneg] at hts
                simp (disch:=omega) only [↓wr,↓reduceIte,wq,ah,ag,aj,ab,ae,af,ai,isNil,Nat.reduceEqDiff,Nat.reduceAdd,Nat.reduceLT,Nat.reduceLeDiff,Int.reduceNeg,Int.reduceToNat,reduceCtorEq,t1,t2,t7,t8,t10,t13,t14,t15,t16,f14,f15,f8]
                intro m hm
                try simp (disch:=omega) only [↓wr,↓reduceIte,wq,ah,ag,aj,ab,ae,af,ai,isNil,Nat.reduceEqDiff,Nat.reduceAdd,Nat.reduceLT,Nat.reduceLeDiff,Int.reduceNeg,Int.reduceToNat,reduceCtorEq,t1,t2,t7,t8,t10,t13,t14,t15,t16,cy]
                have hoD:=(hoC.fresh (o:=.arr 1 [[gi s]]) hm).at 1 (by simp)
                refine dK hoD (by simp[aV]) (by unfold aO; simp at hlk ⊢; omega) (by unfold aO; simp at hlk ⊢; omega) ?_
                intro v' H4 hoE _
                have cv:=hoE.head.cells
                have kv:=hoE.head.kg
                have f15':=hoE.is 1 rfl (by simp)
                simp (disch:=omega) only [↓wr,↓reduceIte,wq,ah,ag,aj,ab,ae,af,ai,isNil,Nat.reduceEqDiff,Nat.reduceAdd,Nat.reduceLT,Nat.reduceLeDiff,Int.reduceNeg,Int.reduceToNat,reduceCtorEq,t1,t2,t7,t8,t10,t13,t14,t15,t16,f15',cv,kv]
                have hoF:=(hoE.at 1 (by simp)).put (es':=[[gi (bp o r.left),v',gi r.prec]]) rfl rfl
                refine bq hk2 (by omega) ⟨⟨v',?_⟩,t1,t2,t7,t8,t10,t13,t14,t15,rfl⟩
                rw[hts]
                simp only[List.map_append,List.map_cons,List.map_nil]
                exact hoF
            · rw[List.take_of_length_le (by simp[bk]; omega)] at hoC
              subst hL
              have f7:=hoC.is 3 rfl (by simp)
              have cv:=(hoC.own 1 rfl).cells
              have kv:=(hoC.own 1 rfl).kg
              have hbl:(fV bs).length≤40:=by
                have h1:=congrArg List.length hbs
                simp only[List.length_map,List.length_take] at h1
                simp only[fV,List.length_map]
                omega
              simp (disch:=omega) only [↓wr,↓reduceIte,wq,ah,ag,aj,ab,ae,af,ai,isNil,Nat.reduceEqDiff,Nat.reduceAdd,Nat.reduceLT,Nat.reduceLeDiff,Int.reduceNeg,Int.reduceToNat,reduceCtorEq,t1,t2,t7,t8,t10,t13,t14,t15,t16,f7,f15,cv,kv]
              intro m hm
              try simp (disch:=omega) only [↓wr,↓reduceIte,wq,ah,ag,aj,ab,ae,af,ai,isNil,Nat.reduceEqDiff,Nat.reduceAdd,Nat.reduceLT,Nat.reduceLeDiff,Int.reduceNeg,Int.reduceToNat,reduceCtorEq,t1,t2,t7,t8,t10,t13,t14,t15,t16,cy]
              have hoD:=(hoC.fresh (o:=.arr 3 [[gi (bp o r.left),v,gi r.prec]]) hm).at 8 (by simp)
              refine dK hoD (by simp[xY,kv]) (by unfold aO; simp at hbl ⊢; omega) (by unfold aO; simp at hbl ⊢; omega) ?_
              intro u2' H4 hoE _
              have cu:=hoE.head.cells
              have ku:=hoE.head.kg
              have f7':=hoE.is 4 rfl (by simp)
              simp (disch:=omega) only [↓wr,↓reduceIte,wq,ah,ag,aj,ab,ae,af,ai,isNil,Nat.reduceEqDiff,Nat.reduceAdd,Nat.reduceLT,Nat.reduceLeDiff,Int.reduceNeg,Int.reduceToNat,reduceCtorEq,t1,t2,t7,t8,t10,t13,t14,t15,t16,f7',cu,ku]
              have hoF:=(hoE.at 4 (by simp)).put (es':=[[u0,u1,u2',gi 0]]) rfl rfl
              have hoG:=((((hoF.at 2 (by simp)).tail).at 3 (by simp)).tail)
              refine bq hk (by omega) ⟨⟨u2',bs ++ [(v,bk (bp o) r)],?_,?_⟩,t1,t2,t7,t8,t10,rfl⟩
              · rw[List.map_append,hbs,htk,List.map_append]; rfl
              · refine hoG.perm (.cons _ ?_)
                simp only[kE,fV,List.map_append,List.map_cons,List.map_nil]
                refine .trans ?_ (qj _ 4 (by simp)).symm
                refine .cons _ ?_
                exact (List.perm_append_singleton (v,1,bP (bk (bp o) r).right) ((.sl b8 0 g.ay.length 1,1,bP (ey g.ay.length o)) :: (.sl n3 0 kl.length 1,1,bP kl) :: (u1,1,jg (o.map fun x=>g.ay.getD x.toNat ⟨#[]⟩)) :: (u0,3,g.az.map cE) :: (.sl b2 0 1 4,4,[[.emp 1,.emp 1,.emp 1,gi 0]]) :: kE bs)).symm
          · rw[List.take_of_length_le (by omega)] at hbs
            have f7:=ho.is 0 rfl (by simp)
            have f8:H2 b8=.arr 1 (bP (ey g.ay.length o)):=ho.is 1 rfl (by simp[ey]; omega)
            have f2:=ho.is 6 rfl (by simp)
            have n72:b7≠b2:=ho.Lw 0 6 rfl rfl (by omega)
            have c1:=(ho.own 3 rfl).cells
            have k1:=(ho.own 3 rfl).kg
            have c2:=(ho.own 5 rfl).cells
            have k2:=(ho.own 5 rfl).kg
            simp (disch:=omega) only [↓wr,↓reduceIte,wq,ah,ag,aj,ab,ae,af,ai,isNil,Nat.reduceEqDiff,Nat.reduceAdd,Nat.reduceLT,Nat.reduceLeDiff,Int.reduceNeg,Int.reduceToNat,reduceCtorEq,t1,t2,t7,t8,t10,t13,f7,f8,f2,n72,n72.symm,hstb,c0,k0,c1,k1,c2,k2,aw,List.length_map]
            refine ⟨by omega,by simp[ey]; omega,fun h' hh=>?_⟩
            have hoA:=ho.put (es':=[[u0,u1,u2,gi (bp o g.start)]]) rfl rfl
            have hoB:=(hoA.at 6 (by simp)).put (es':=[[u0,u1,u2,gi (bp o g.start)]]) rfl rfl
            have hv:h'.view=(H2.set b7 (.arr 4 [[u0,u1,u2,gi (bp o g.start)]])).set b2 (.arr 4 [[u0,u1,u2,gi (bp o g.start)]]):=hh
            rw[← hv] at hoB
            rw[hred]
            exact GD (x:=(⟨g.az,o.map fun x=>g.ay.getD x.toNat ⟨#[]⟩,(g.rules.filter (bE p q)).map (bk (bp o)),bp o g.start⟩,kl,0)) (b:=bs) (hoB.own 5 rfl) (hoB.own 4 rfl) (hoB.own 6 rfl) (fun y hy=>hoB.1 y (by
              refine List.mem_cons_of_mem _ (List.mem_cons_of_mem _ (List.mem_cons_of_mem _ (List.mem_cons_of_mem _ (List.mem_cons_of_mem _ (List.mem_cons_of_mem _ (List.mem_cons_of_mem _ ?_))))))
              exact hy)) hbs (hoB.own 3 rfl)
  · rename_i hr
    intro h' hh
    rw[fi,if_neg (by simp[hr])]
    exact uo
theorem Gi {g:ao} (e:mc g=false):g.Small:=by
  simp only[mc,Bool.or_eq_false_iff,decide_eq_false_iff_not] at e
  exact ⟨by omega⟩
theorem Ng (g:ao):aD Tryz.prog 16 [.agg (aw g)] (gb (mc g)):=aD.val (eN g) fun H=>(Nb g H).mono fun _ _ h=>h.1
theorem zI {H:View} {id n:Nat} {l:List Int} (hv:H id=.arr 1 (bP l)) (hn:n=l.length):dD H (.sl id 0 n 1) (encI l):=by
  subst hn
  exact dD.own (sz:=1) (.inr ⟨id,by simp,hv⟩) fun e he v hv=>by
    obtain ⟨x,_,rfl⟩:=List.mem_map.1 he
    simp at hv; subst hv; exact .val _
theorem aQ.elems {H:View} {u:V} {sz:Nat} {es:List (List V)} (h:aQ H u sz es):∃ rd,bI H u=some (es,rd):=by
  rcases h with ⟨rfl,k,rfl⟩ | ⟨n,rfl,hn⟩
  · exact ⟨[],rfl⟩
  · cases es with
    | nil=>exact ⟨[],rfl⟩
    | cons e r =>
      refine ⟨[n],?_⟩
      rw[List.length_cons,j0 _ n 0 r.length sz sz _ hn (by simp),List.drop_zero,List.take_of_length_le (by simp)]
theorem cd.step {H H' H1:View} {u u1:V} (h:cd H H' u) (l:Left H' H1 u u1):cd H H1 u1:=fun id hid=>by
  have h1:=h id hid
  have h2:=l id (by rw[h1.1]; exact hid) h1.2
  exact ⟨h2.1.trans h1.1,h2.2⟩
theorem cd.put {H H':View} {u:V} {n:Nat} {o:bM} (h:cd H H' u) (hn:H' n=.dead):cd H (H'.set n o) u:=fun id hid=>by
  have h1:=h id hid
  have e:id≠n:=by rintro rfl; rw[h1.1] at hn; exact hid hn
  exact ⟨by simp[View.set,e,h1.1],h1.2⟩
theorem cd.call {H H' H2:View} {u r:V} (h:cd H H' u) (k:cd H' H2 r):cd H H2 u:=fun id hid=>by
  have h1:=h id hid
  have h2:=k id (by rw[h1.1]; exact hid)
  exact ⟨h2.1.trans h1.1,h1.2⟩
theorem lR {P:Program} {t:TypeId} {d:TypeDesc} (hu:P.underlying t=some d) (hd:d=.string∨∃ k,d=.int k) (cs:Array Value) (off:Nat) {v:Value} (hv:cs[off]?=some v):bD P (part t cs off)=some v:=by
  have h0:bD P (isAgg t)=some false:=by
    rcases hd with rfl | ⟨k,rfl⟩
    all_goals simp only[isAgg,bw,eo hu,Option.bind_some]; rfl
  simp only[part,bw,h0,Option.bind_some,Bool.false_eq_true,if_false,hv]
  rfl
inductive fj (P:Program) (d:Nat) (xs ys:Array Value):List Field→Bool→Prop
  | nil:fj P d xs ys [] true
  | str (f:Field) (l:List Field) (c:Bool) (a b:ByteArray):(f.name≠ "_")→P.underlying f.type=some .string→xs[f.offset]?=some (.string a)→ys[f.offset]?=some (.string b)→fj P d xs ys l c→fj P d xs ys (f :: l) (a == b && c)
  | int (f:Field) (l:List Field) (c:Bool) (k:IntKind) (a b:Int):(f.name≠ "_")→P.underlying f.type=some (.int k)→xs[f.offset]?=some (.int k a)→ys[f.offset]?=some (.int k b)→fj P d xs ys l c→fj P d xs ys (f :: l) (a == b && c)
theorem fj.forIn {P:Program} {d e:Nat} {xs ys:Array Value} {l:List Field} {c:Bool} (h:fj P d xs ys l c) (hd:e=d+1) :
    bD P (forIn l ((none:Option Bool),()) fun f _ =>
        if f.name≠ "_" then do
          let a ← part f.type xs f.offset
          let b ← part f.type ys f.offset
          let e ← Op.equalIn e f.type a b
          if (!e)=true then pure (ForInStep.done (some false,())) else pure (ForInStep.yield (none,()))
        else pure (ForInStep.yield (none,())))=some (if c=true then (none,()) else (some false,())):=by
  subst hd
  induction h with
  | nil=>rfl
  | str f l c a b hn hu hx hy _ ih =>
    have he:bD P (Op.equalIn (d+1) f.type (.string a) (.string b))=some (a == b):=by
      simp only[Op.equalIn,bw,eo hu,Option.bind_some]; rfl
    rw[List.forIn_cons,bw,if_pos hn,bw,lR hu (.inl rfl) xs _ hx,Option.bind_some,bw,lR hu (.inl rfl) ys _ hy,Option.bind_some,bw,he,Option.bind_some]
    cases a == b with
    | false=>rfl
    | true=>exact ih
  | int f l c k a b hn hu hx hy _ ih =>
    have he:bD P (Op.equalIn (d+1) f.type (.int k a) (.int k b))=some (a == b):=by
      simp only[Op.equalIn,bw,eo hu,Option.bind_some]; rfl
    rw[List.forIn_cons,bw,if_pos hn,bw,lR hu (.inr ⟨k,rfl⟩) xs _ hx,Option.bind_some,bw,lR hu (.inr ⟨k,rfl⟩) ys _ hy,Option.bind_some,bw,he,Option.bind_some]
    cases a == b with
    | false=>rfl
    | true=>exact ih
theorem yW {P:Program} {t:TypeId} {fs:Array Field} {xs ys:Array Value} {c:Bool} (hu:P.underlying t=some (.struct fs)) (hs:P.stoodInHeld t=false) (h:fj P 9998 xs ys fs.toList c) :
    bD P (Op.equal t (.agg xs) (.agg ys))=some c:=by
  rw[kb]
  rw[Op.equalIn,bw,eo hu,Option.bind_some]
  have hst:(bD P program)=some P:=rfl
  rw[bw,hst,Option.bind_some,hs]
  simp only[← Array.forIn_toList,Bool.false_eq_true,if_false]
  rw[bw,h.forIn (e:=9999) rfl,Option.bind_some]
  cases c <;> rfl
theorem BK {P:Program} {o:Oper} {T:Env} {op:BinOp} {t u:TypeId} {x y:Operand} {fs:Array Field} {xs ys:Array Value} {c r:Bool} (ho:o.op=.binOp op t x y u) (hu:P.underlying t=some (.struct fs)) (hs:P.stoodInHeld t=false) (hg:P.eqGuardType P.depth t=false)
    (hx:cY (ev T x)=some (.agg xs)) (hy:cY (ev T y)=some (.agg ys)) (h:fj P 9998 xs ys fs.toList c) (hr:(op=.eql∧r=c)∨(op=.neq∧r = !c)) :
    dh P o T=some (.val (.bool r),.none,[]):=by
  have he:=yW hu hs h
  have hst:(bD P program)=some P:=rfl
  unfold dh
  simp only[ho,Op.operands,hx,hy]
  rcases hr with ⟨rfl,rfl⟩ | ⟨rfl,rfl⟩
  · simp[execOp,ho,hx,hy,eqGuard,binOp,gV,bw,hst,hg,he,plain]
    try simp[bD,pure,plain]
  · simp[execOp,ho,hx,hy,eqGuard,binOp,gV,bw,hst,hg,he,plain]
    try simp[bD,pure,plain,bne]
theorem gS {P:Program} {T:Env} {H:View} {K:V→View→Prop} {w:cD (T,H,K)} {op:BinOp} {t u ty:TypeId} {x y:Operand} {fs:Array Field} {xs ys:Array Value} {c r:Bool} (hu:P.underlying t=some (.struct fs)) (hs:P.stoodInHeld t=false) (hg:P.eqGuardType P.depth t=false)
    (hx:cY (ev T x)=some (.agg xs)) (hy:cY (ev T y)=some (.agg ys)) (h:fj P 9998 xs ys fs.toList c) (hr:(op=.eql∧r=c)∨(op=.neq∧r = !c)) (hk:K (.val (.bool r)) H):nT P (.binOp op t x y u) ty T H K w:=by
  intro n _
  refine ⟨.val (.bool r),.none,[],?_,hk⟩
  have hn:ic P t=none:=by simp[ic,hu]
  simp only[sI,bY,oper,hn]
  simp only[Option.isSome_none,Bool.false_eq_true,if_false]
  exact BK rfl hu hs hg hx hy h hr
def wH (hp:Array Obj) (cs:List Value) (vs:List V):Prop :=
  vs.length=cs.length∧∀ μ i,i < vs.length→aB (fun b=>b < hp.size) μ hp (vs.getD i .any) (cs.getD i undef)
def Wt {H:Type} (P:Program) (t:TypeId) (d:DataW H):Prop:=∀ n∈d.weights P t,n≤reachBytes
def xb (P:Program) (t:TypeId) {α:Type} (f:α→List V) (ok:α→Prop):Prop :=
  ∀ {H:Type} (enc:TypeId × Value→H) (w:World) (base:Nat) (sp:Nat→Bool) (held:Bool) (fuel:Nat) (cs:List Value) (x:DataW H × List MemPlace),
    DataW.trod enc P w base sp held fuel t cs=some x→Wt P t x.1→∃ a,ok a∧wH w.heap cs (f a)
theorem uh {hp:Array Obj} {c:Value} {v:V} (h:∀ μ,aB (fun b=>b < hp.size) μ hp v c):wH hp [c] [v]:=by
  refine ⟨rfl,fun μ i hi=>?_⟩
  match i,hi with
  | 0,_=>exact h μ
theorem O8 {P:Program} {t:TypeId} {k:IntKind} (ht:P.underlying t=some (.int k)):xb P t (fun n=>[.val (.int k n)]) (fun n=>(Lit.int k n).wf=true):=by
  intro H enc w base sp held fuel cs x h _
  obtain ⟨n,rfl,_,hw⟩:=DataW.trod_int ht h
  exact ⟨n,hw,uh fun μ=>.val _ rfl⟩
theorem CL {P:Program} {t:TypeId} (ht:P.underlying t=some .string):xb P t (fun s=>[.val (.string s)]) (fun _=>True):=by
  intro H enc w base sp held fuel cs x h _
  obtain ⟨s,rfl,_,_⟩:=DataW.trod_string ht h
  exact ⟨s,trivial,uh fun μ=>.val _ rfl⟩
theorem F4 {w:World} {base:Nat} {a:Addr} {n:Nat} {cs:List Value} (h:w.cells? base a n=some cs):cs.length=n∧∀ i,i < n→w.cell? (a.add i)=some (cs.getD i undef):=by
  obtain ⟨_,h2,h3⟩:=World.cells?_some h
  refine ⟨h2,fun i hi=>?_⟩
  rw[h3 i hi,List.getD_eq_getElem?_getD,List.getElem?_eq_getElem (by omega)]
  rfl
theorem Kw {w:World} {a:Addr} {v:Value} (h:w.cell? a=some v):a.spot=none∧a.block < w.heap.size:=by
  unfold World.cell? at h
  split at h
  · rename_i c _ _ hb
    split at h
    · simp at h
    · rename_i hs
      exact ⟨by simpa using hs,(Array.getElem?_eq_some_iff.1 hb).1⟩
  · simp at h
theorem JW {H:Type} {P:Program} {e:TypeId} : ∀ {l:List (DataW H)},(∀ n∈DataW.weightsAll P e l,n≤reachBytes)→∀ d∈l,Wt P e d
  | [],_,d,hd=>by simp at hd
  | x :: l,h,d,hd=>by
    simp only[DataW.weightsAll,List.mem_append] at h
    rcases List.mem_cons.1 hd with rfl | hd
    · exact fun n hn=>h n (.inl hn)
    · exact JW (fun n hn=>h n (.inr hn)) d hd
theorem Na {H:Type} {P:Program} {t e:TypeId} {elems spare:List (DataW H)} (ht:P.underlying t=some (.slice e)) (h:Wt P t (.slice elems spare)) :
    (elems.length+spare.length) * P.bytesOf e≤reachBytes∧∀ d∈elems,Wt P e d:=by
  unfold Wt at h
  unfold DataW.weights at h
  rw[ht] at h
  simp only[List.mem_cons,List.mem_append] at h
  exact ⟨h _ (.inl rfl),JW fun n hn=>h n (.inr (.inl hn))⟩
theorem LI {H:Type} {P:Program} {t:TypeId} {fs:Array Field} {parts:List (DataW H)} (ht:P.underlying t=some (.struct fs)) (h:Wt P t (.agg parts)) {j:Nat} {f:Field} {d:DataW H} (hf:fs[j]?=some f) (hd:parts[j]?=some d):Wt P f.type d:=by
  intro n hn
  refine h n ?_
  unfold DataW.weights
  rw[ht]
  exact DataW.weights_mem_each (j:=j) (t:=f.type) (by simp[hf]) hd n hn
theorem Hq {α:Type} {φ:Nat→α→Prop} : ∀ (n:Nat),(∀ i,i < n→∃ a,φ i a)→∃ l:List α,l.length=n∧∀ i (hi:i < l.length),φ i l[i]
  | 0,_=>⟨[],rfl,fun i hi=>by simp at hi⟩
  | n+1,h=>by
    obtain ⟨l,hl,hφ⟩:=Hq n fun i hi=>h i (by omega)
    obtain ⟨a,ha⟩:=h n (by omega)
    refine ⟨l ++ [a],by simp[hl],fun i hi=>?_⟩
    by_cases e:i < l.length
    · rw[List.getElem_append_left e]; exact hφ i e
    · have:i=n:=by simp at hi; omega
      subst this
      rw[List.getElem_append_right (by omega)]
      simp only[hl,Nat.sub_self,List.getElem_cons_zero]; exact ha
theorem uO {P:Program} {t e:TypeId} {α:Type} {f:α→List V} {ok:α→Prop} (ht:P.underlying t=some (.slice e)) (hc:0 < P.cellsOf e) (hb:0 < P.bytesOf e) (he:xb P e f ok) :
    xb P t (fun l:List α=>[.aZ (l.map f)]) (fun l=>l.length < 4611686018427387904∧∀ a∈l,ok a):=by
  intro H enc w base sp held fuel cs x h hw
  rcases DataW.trod_slice ht h with ⟨rfl,rfl⟩ | ⟨a,len,cap,elems,rest,n,_,rfl,rfl,hba,hl,hm,hlen,hel,_,_⟩
  · exact ⟨[],⟨by simp,by simp⟩,uh fun μ=>.gz none 0 (by simp)⟩
  obtain ⟨hw1,hw2⟩:=Na ht hw
  simp only[List.length_map] at hw1
  have hlt:len < 4611686018427387904:=by
    have h1:len * 1≤(elems.length+rest.length) * P.bytesOf e:=Nat.mul_le_mul (by omega) hb
    unfold reachBytes at hw1
    omega
  have each:∀ i,i < len→∃ y,ok y∧∃ ci,w.cells? base (a.add (i * P.cellsOf e)) (P.cellsOf e)=some ci∧wH w.heap ci (f y):=by
    intro i hi
    have h1:=hel i hi
    have h2:elems[i]?=some (elems[i]'(by omega)):=List.getElem?_eq_getElem (by omega)
    have hmem:elems[i]'(by omega)∈elems:=List.getElem_mem _
    rw[h2,Option.bind_eq_some_iff] at h1
    obtain ⟨ci,h3,h4⟩:=h1
    obtain ⟨y,h5,h6⟩:=he enc w base sp held n ci _ h4 (hw2 _ (List.mem_map.2 ⟨_,hmem,rfl⟩))
    exact ⟨y,h5,ci,h3,h6⟩
  obtain ⟨l,hll,hφ⟩:=Hq len each
  subst hll
  refine ⟨l,⟨hlt,fun y hy=>?_⟩,uh fun μ=>?_⟩
  · obtain ⟨i,hi,rfl⟩:=List.getElem_of_mem hy
    exact (hφ i hi).1
  by_cases h0:l=[]
  · subst h0
    exact .gz (some a) cap (by simp)
  have hpos:0 < l.length:=List.length_pos_iff.2 h0
  have hcell:∀ i j,i < l.length→j < P.cellsOf e→∃ c,cellAt w.heap a.block (a.off+i * P.cellsOf e+j)=some c∧a.block < w.heap.size∧(i=0→j=0→a.spot=none)∧∀ (hi:i < l.length),aB (fun b=>b < w.heap.size) μ w.heap ((f l[i]).getD j .any) c:=by
    intro i j hi hj
    obtain ⟨_,ci,h1,h2⟩:=hφ i hi
    obtain ⟨h3,h4⟩:=F4 h1
    have h5:=h4 j hj
    have h6:=Kw h5
    have hbk:((a.add (i * P.cellsOf e)).add j).block=a.block:=by simp only[Addr.add]; split <;> split <;> rfl
    have hof:((a.add (i * P.cellsOf e)).add j).off=a.off+i * P.cellsOf e+j:=by
      simp only[Addr.add]; split <;> split <;> simp_all
    refine ⟨ci.getD j undef,?_,by rw[← hbk]; exact h6.2,?_,fun _=>?_⟩
    · rw[← hof,← hbk,← lC]
      rw[← h5]
      congr 1
      generalize (a.add (i * P.cellsOf e)).add j=b at h6
      cases b
      simp at h6 ⊢
      exact h6.1.symm
    · rintro rfl rfl
      simp[Addr.add] at h6
      exact h6.1
    · exact h2.2 μ j (by rw[h2.1,h3]; exact hj)
  obtain ⟨_,_,hz,hs,_⟩:=hcell 0 0 hpos hc
  have ha:a=⟨a.block,a.off,none⟩:=by
    cases a; simp at hs ⊢; exact hs
  have hlf:∀ i,i < l.length→(f (l[i]?.getD (l[0]'hpos))).length=P.cellsOf e:=fun i hi=>by
    obtain ⟨_,ci,h1,h2⟩:=hφ i hi
    rw[List.getElem?_eq_getElem hi,Option.getD_some,h2.1,(F4 h1).1]
  have hgd:∀ i (hi:i < l.length),(l.map f).getD i []=f l[i]:=fun i hi=>by simp[List.getD_eq_getElem?_getD,hi]
  have hcl:(l.map f).length=l.length:=by simp
  have:=aB.aZ (Z:=fun b=>b < w.heap.size) (μ:=μ) (hp:=w.heap) (l.map f) a.block a.off (P.cellsOf e) cap (fun i j=>(cellAt w.heap a.block (a.off+i * P.cellsOf e+j)).getD undef) hz (by rw[hcl]; exact hl)
    (fun i hi=>by
      rw[hcl] at hi
      have:=hlf i hi
      rw[List.getElem?_eq_getElem hi,Option.getD_some] at this
      rw[hgd i hi]; exact this)
    (fun i j hi hj=>by
      rw[hcl] at hi
      obtain ⟨c,h1,_⟩:=hcell i j hi hj
      rw[h1]; rfl)
    (fun i j hi hj=>by
      rw[hcl] at hi
      obtain ⟨c,h1,_,_,h2⟩:=hcell i j hi hj
      rw[h1,hgd i hi]; exact h2 hi)
  rw[hcl,← ha] at this
  exact this
theorem xh {P:Program} {t:TypeId} {fs:Array Field} (ht:P.underlying t=some (.struct fs)) (hf:∀ (i:Nat) (f:Field),fs[i]?=some f→f.offset=i∧P.cellsOf f.type=1) (hn:P.cellsOf t=fs.size)
    {H:Type} {enc:TypeId × Value→H} {w:World} {base:Nat} {sp:Nat→Bool} {held:Bool} {fuel:Nat} {cs:List Value} {x:DataW H × List MemPlace} (h:DataW.trod enc P w base sp held fuel t cs=some x) (hw:Wt P t x.1) :
    cs.length=fs.size∧∀ (i:Nat) (f:Field),fs[i]?=some f→∀ {α:Type} {g:α→List V} {ok:α→Prop},xb P f.type g ok→∃ a,ok a∧wH w.heap [cs.getD i undef] (g a):=by
  obtain ⟨xs,n,rfl,rfl,hl,hlen,hx⟩:=DataW.trod_struct ht h
  refine ⟨by rw[hl,hn],fun i f hi α g ok hr=>?_⟩
  obtain ⟨h1,h2⟩:=hf i f hi
  have hi2:i < fs.size:=(Array.getElem?_eq_some_iff.1 hi).1
  have h3:=hx i f hi
  have h4:xs[i]?=some (xs[i]'(by omega)):=List.getElem?_eq_getElem (by omega)
  rw[h4,h1,h2] at h3
  have h5:(cs.drop i).take 1=[cs.getD i undef]:=by
    rw[List.getD_eq_getElem?_getD,List.getElem?_eq_getElem (by omega),List.drop_eq_getElem_cons (by omega)]
    rfl
  rw[h5] at h3
  exact hr enc w base sp held n _ _ h3 (LI ht hw hi (by simp[h4]))
theorem gn {hp:Array Obj} {c:Value} {cs:List Value} {v:V} {vs:List V} (h:wH hp [c] [v]) (k:wH hp cs vs):wH hp (c :: cs) (v :: vs):=by
  refine ⟨by simp[k.1],fun μ i hi=>?_⟩
  cases i with
  | zero=>exact h.2 μ 0 (by simp)
  | succ i=>exact k.2 μ i (by simpa using hi)
theorem zx {hp:Array Obj} : wH hp [] []:=⟨rfl,fun μ i hi=>by simp at hi⟩
theorem N8 {n:Int} (h:(Lit.int .i64 n).wf=true):cz n:=by
  simp only[Lit.wf,Bool.and_eq_true,decide_eq_true_eq] at h
  exact h
theorem nG:xb Tryz.prog 3 (fun n=>[gi n]) cz:=fun enc w base sp held fuel cs x h hw=>by
  obtain ⟨n,h1,h2⟩:=O8 Tryz.underlying3 enc w base sp held fuel cs x h hw
  exact ⟨n,N8 h1,h2⟩
theorem N9:xb Tryz.prog 43 (fun l:List Int=>[encI l]) (fun l=>aW l∧∀ x∈l,cz x) :=
  uO Tryz.underlying43 (of_decide_eq_true (by kernel_rfl)) (of_decide_eq_true (by kernel_rfl)) nG
theorem IQ:xb Tryz.prog 23 (fun l:List ByteArray=>[encS l]) (fun l=>aW l∧∀ x∈l,True) :=
  uO Tryz.underlying23 (of_decide_eq_true (by kernel_rfl)) (of_decide_eq_true (by kernel_rfl)) (CL Tryz.underlying9)
theorem PW {cs:List Value} (h:cs.length=3):cs=[cs.getD 0 undef,cs.getD 1 undef,cs.getD 2 undef]:=by
  match cs,h with
  | [a,b,c],_=>rfl
theorem QT {cs:List Value} (h:cs.length=4):cs=[cs.getD 0 undef,cs.getD 1 undef,cs.getD 2 undef,cs.getD 3 undef]:=by
  match cs,h with
  | [a,b,c,d],_=>rfl
theorem N4:xb Tryz.prog 129 cE (fun t=>cz t.level∧cz t.assoc):=fun enc w base sp held fuel cs x h hw=>by
  obtain ⟨hl,hf⟩:=xh Tryz.underlying129 (by
    intro i f hi
    match i,hi with
    | 0,hi=>simp at hi; subst hi; exact ⟨rfl,by kernel_rfl⟩
    | 1,hi=>simp at hi; subst hi; exact ⟨rfl,by kernel_rfl⟩
    | 2,hi=>simp at hi; subst hi; exact ⟨rfl,by kernel_rfl⟩
    | n+3,hi=>simp at hi) (by kernel_rfl) h hw
  obtain ⟨a,_,h1⟩:=hf 0 _ rfl (CL Tryz.underlying9)
  obtain ⟨b,h2,h3⟩:=hf 1 _ rfl nG
  obtain ⟨c,h4,h5⟩:=hf 2 _ rfl nG
  refine ⟨⟨a,b,c⟩,⟨h2,h4⟩,?_⟩
  rw[PW hl]
  exact gn h1 (gn h3 (gn h5 zx))
theorem NR:xb Tryz.prog 71 ba (fun r=>cz r.left∧cz r.prec∧aW r.right∧∀ x∈r.right,cz x):=fun enc w base sp held fuel cs x h hw=>by
  obtain ⟨hl,hf⟩:=xh Tryz.underlying71 (by
    intro i f hi
    match i,hi with
    | 0,hi=>simp at hi; subst hi; exact ⟨rfl,by kernel_rfl⟩
    | 1,hi=>simp at hi; subst hi; exact ⟨rfl,by kernel_rfl⟩
    | 2,hi=>simp at hi; subst hi; exact ⟨rfl,by kernel_rfl⟩
    | n+3,hi=>simp at hi) (by kernel_rfl) h hw
  obtain ⟨a,h0,h1⟩:=hf 0 _ rfl nG
  obtain ⟨b,h2,h3⟩:=hf 1 _ rfl N9
  obtain ⟨c,h4,h5⟩:=hf 2 _ rfl nG
  refine ⟨⟨a,b,c⟩,⟨h0,h4,h2.1,h2.2⟩,?_⟩
  rw[PW hl]
  exact gn h1 (gn h3 (gn h5 zx))
theorem Oh:xb Tryz.prog 26 aw ao.Ok:=fun enc w base sp held fuel cs x h hw=>by
  obtain ⟨hl,hf⟩:=xh Tryz.underlying26 (by
    intro i f hi
    match i,hi with
    | 0,hi=>simp at hi; subst hi; exact ⟨rfl,by kernel_rfl⟩
    | 1,hi=>simp at hi; subst hi; exact ⟨rfl,by kernel_rfl⟩
    | 2,hi=>simp at hi; subst hi; exact ⟨rfl,by kernel_rfl⟩
    | 3,hi=>simp at hi; subst hi; exact ⟨rfl,by kernel_rfl⟩
    | n+4,hi=>simp at hi) (by kernel_rfl) h hw
  obtain ⟨a,h0,h1⟩:=hf 0 _ rfl (uO Tryz.underlying22 (of_decide_eq_true (by kernel_rfl)) (of_decide_eq_true (by kernel_rfl)) N4)
  obtain ⟨b,h2,h3⟩:=hf 1 _ rfl IQ
  obtain ⟨c,h4,h5⟩:=hf 2 _ rfl (uO Tryz.underlying24 (of_decide_eq_true (by kernel_rfl)) (of_decide_eq_true (by kernel_rfl)) NR)
  obtain ⟨d,h6,h7⟩:=hf 3 _ rfl nG
  refine ⟨⟨a,b,c,d⟩,⟨h0.1,h2.1,h4.1,h6,h0.2,h4.2⟩,?_⟩
  rw[QT hl]
  exact gn h1 (gn h3 (gn h5 (gn h7 zx)))
def ry:SC :=
  .seq (ak [aN 44 .lss 43 42]) <|
  .seq (.cond (.tmp 44) (.skip) (.exit 0)) <|
  .seq (.block 1 (.seq (ak [aa 45 43,aP 46 3 41 43,aK 47 3 46,((some 11),.op (.alloc [(.val (.int .i64 0)),(.emp 1),(.val (.int .i64 0))])),aa 10 45,(none,.op (.store 3 (.tmp 11) (.tmp 47)))]) <|
  .seq (.seq (.region false [⟨none,[aa 48 6,av 49 0 11,au 50 49,aP 51 1 48 50,au 52 51,b6 53 52,aa 54 53]⟩,⟨(some (54,false)),[aK 55 3 11,aa 56 5,aI 57 160 [55,56],b6 58 57]⟩,⟨none,[bJ 59 54 58]⟩]) <|
  .cond (.tmp 59) (.exit 1) (.skip)) <|
  .seq (ak [aa 60 7,aa 61 10,((some 62),.op (.bC 1 1 [(.val (.int .i64 0))] [(0,(.tmp 61))])),((some 63),.op (.app 1 8 (.tmp 60) (.tmp 62))),aa 7 63]) <|
  .seq (ak [aa 65 9,av 66 0 11,au 67 66,((some 68),.op (.old (.lookup 204 (.tmp 65) (.tmp 67) true) 30)),aa 64 68,cG 69 0 64,cG 70 1 64,aa 12 69,aa 13 70]) <|
  .seq (ak [aa 71 13,b6 72 71]) <|
  .cond (.tmp 72) (.seq (ak [aa 73 9,av 74 0 11,au 75 74,av 76 1 8,au 77 76,aJ 78 77,(none,.op (.old (.mapUpdate 204 (.tmp 73) (.tmp 75) (.tmp 78)) 0))]) <|
  .region false [⟨none,[av 79 1 8,au 80 79,av 81 1 1,au 82 81,av 83 0 11,au 84 83,aP 85 1 82 84,au 86 85,((some 87),.op (.bC 1 1 [(.val (.string ⟨#[]⟩))] [(0,(.tmp 86))])),((some 88),.op (.app 1 16 (.tmp 80) (.tmp 87))),av 89 1 8,(none,.op (.store 1 (.tmp 89) (.tmp 88)))]⟩]) (.skip))) <|
  ak [aA 90 .add 43 1,aa 43 90]
def rR:SC :=
  .seq (ak [aN 116 .lss 115 114]) <|
  .seq (.cond (.tmp 116) (.skip) (.exit 4)) <|
  .seq (.block 5 (.seq (ak [aa 117 115,aP 118 1 113 115,au 119 118,aa 18 117,aa 19 119]) <|
  .seq (ak [aa 120 19,aA 121 .lss 120 0]) <|
  .cond (.tmp 121) (ak [av 122 1 17,au 123 122,aa 124 18,aa 125 9,aa 126 19,((some 127),.op (.arith .sub (.val (.val (.int .i64 (-1)))) (.tmp 126))),((some 128),.op (.old (.lookup 204 (.tmp 125) (.tmp 127) false) 3)),((some 129),.op (.arith .sub (.val (.val (.int .i64 (-1)))) (.tmp 128))),aP 130 1 123 124,(none,.op (.store 1 (.tmp 130) (.tmp 129)))]) (.skip))) <|
  ak [aA 131 .add 115 1,aa 115 131]
def ri:SC :=
  .seq (ak [aN 94 .lss 93 92]) <|
  .seq (.cond (.tmp 94) (.skip) (.exit 2)) <|
  .seq (.block 3 (.seq (ak [aP 95 1 91 93,au 96 95,aa 15 96]) <|
  .seq (ak [av 97 2 1,au 98 97,aa 99 15,aP 100 3 98 99,aK 101 3 100,((some 16),.op (.alloc [(.val (.int .i64 0)),(.emp 1),(.val (.int .i64 0))])),(none,.op (.store 3 (.tmp 16) (.tmp 101)))]) <|
  .seq (.region true [⟨none,[aa 102 9,av 103 0 16,au 104 103,((some 105),.op (.old (.lookup 204 (.tmp 102) (.tmp 104) false) 3)),av 106 1 16,au 107 106,aI 108 161 [107],av 109 2 16,au 110 109,((some 111),.op (.build [(.val (.int .i64 0)),(.emp 1),(.val (.int .i64 0))] [(0,1,(.tmp 105)),(1,1,(.tmp 108)),(2,1,(.tmp 110))])),((some 17),.op (.alloc [(.val (.int .i64 0)),(.emp 1),(.val (.int .i64 0))])),(none,.op (.store 3 (.tmp 17) (.tmp 111)))]⟩]) <|
  .seq (.seq (ak [av 112 1 17,au 113 112,aJ 114 113,aF 115 0]) <|
  .block 4 (.loop rR)) <|
  ak [av 132 2 8,au 133 132,aK 134 3 17,((some 135),.op (.bC 1 3 [(.val (.int .i64 0)),(.emp 1),(.val (.int .i64 0))] [(0,(.tmp 134))])),((some 136),.op (.app 3 40 (.tmp 133) (.tmp 135))),av 137 2 8,(none,.op (.store 1 (.tmp 137) (.tmp 136)))])) <|
  ak [aA 138 .add 93 1,aa 93 138]
def vm:SF:=⟨.seq (ak [bZ 1 0,((some 2),.op (.alloc [(.emp 1),(.emp 1),(.emp 1),(.val (.int .i64 0))])),((some 3),.op (.bm (.val (.emp 1)))),aF 4 0]) <|
  .seq (.seq (ak [aK 20 4 1,aI 21 52 [20],b6 22 21]) <|
  .cond (.tmp 22) (.seq (ak [((some 23),.op (.build [(.emp 1),(.emp 1),(.emp 1),(.val (.int .i64 0))] [])),(none,.op (.store 4 (.tmp 2) (.tmp 23))),((some 3),.op (.bm (.val (.emp 1)))),aF 4 1]) <|
  .ret) (.skip)) <|
  .seq (.region true [⟨none,[aK 24 4 1,aI 25 157 [24],aK 26 4 1,aI 27 158 [26],aa 5 25,aa 6 27]⟩]) <|
  .seq (.seq (ak [aa 28 5,av 29 3 1,au 30 29,aP 31 1 28 30,au 32 31,b6 33 32]) <|
  .cond (.tmp 33) (.seq (ak [((some 34),.op (.build [(.emp 1),(.emp 1),(.emp 1),(.val (.int .i64 0))] [])),(none,.op (.store 4 (.tmp 2) (.tmp 34))),((some 3),.op (.bm (.val (.emp 1)))),aF 4 9]) <|
  .ret) (.skip)) <|
  .seq (ak [((some 7),.op (.bm (.val (.emp 1))))]) <|
  .seq (ak [av 35 0 1,au 36 35,aI 37 159 [36],((some 38),.op (.build [(.emp 1),(.emp 1),(.emp 1),(.val (.int .i64 0))] [(0,1,(.tmp 37))])),((some 8),.op (.alloc [(.emp 1),(.emp 1),(.emp 1),(.val (.int .i64 0))])),(none,.op (.store 4 (.tmp 8) (.tmp 38)))]) <|
  .seq (ak [((some 39),.op (.lO)),aa 9 39]) <|
  .seq (.seq (ak [av 40 2 1,au 41 40,aJ 42 41,aF 43 0]) <|
  .block 0 (.loop ry)) <|
  .seq (.seq (ak [aa 91 7,aJ 92 91,aF 93 0]) <|
  .block 2 (.loop ri)) <|
  .seq (ak [aa 139 9,av 140 3 1,au 141 140,((some 142),.op (.old (.lookup 204 (.tmp 139) (.tmp 141) false) 3)),av 143 3 8,(none,.op (.store 1 (.tmp 143) (.tmp 142)))]) <|
  .seq (ak [aK 144 4 8,aa 145 7,(none,.op (.store 4 (.tmp 2) (.tmp 144))),aa 3 145,aF 4 0]) <|
  .ret,
  [.cell 2 (some 4),.tmp 3,.tmp 4],146⟩
theorem y5:bf Tryz.prog 109 [1]=some vm:=by kernel_rfl
abbrev vU (m:cm Int):List (V × V × Nat):=bR (Value.int .i64) m
def OL (g:ao) (p q:List Bool) (b2 b8 b9:Nat) (u0:V) (i:Nat) (T:Env) (H:View):Prop :=
  (∃ u1 u3:V,T 7=u3∧(∀ x∈bN p q (g.rules.take i),0≤x∧x < g.ay.length)∧(bN p q (g.rules.take i)).length≤i ∧
    bg H [(.sl b8 0 1 4,4,[[u0,u1,.emp 1,gi 0]]),(u3,1,bP (cn p q (g.rules.take i) 0)),
      (u1,1,jg ((bN p q (g.rules.take i)).map fun x=>g.ay.getD x.toNat ⟨#[]⟩)),(u0,3,g.az.map cE),(.sl b2 0 1 4,4,[[.emp 1,.emp 1,.emp 1,gi 0]])] ∧
    ∃ m c,H b9=.map (vU m) c∧mH gi (iK (bN p q (g.rules.take i)) 0) m) ∧
  T 1=.aR (aw g) 0∧T 2=.ptr b2 0 0∧T 5=bO p∧T 6=bO q∧T 8=.ptr b8 0 0∧T 9=.mp b9∧T 41=.aZ (g.rules.map ba)∧T 42=gi g.rules.length∧T 43=gi i
theorem B4 {α:Type} {x s:α} : ∀ {a d:List α} {k:Nat},a.length=k→(a ++ s :: d).set k x=a ++ x :: d
  | [],d,k,h=>by simp at h; subst h; rfl
  | y :: a,d,k,h=>by
    cases k with
    | zero=>simp at h
    | succ k=>simp only[List.cons_append,List.set_cons_succ]; rw[B4 (by simpa using h)]
def P4 (g:ao) (p q:List Bool) (b2 b8 b9:Nat) (u0 u1 u3:V) (o kl:List Int) (mm:cm Int) (cc:Nat) (i:Nat) (T:Env) (H:View):Prop :=
  (∃ (u2:V) (bs:xN),bs.map (·.2)=((g.rules.filter (bE p q)).take i).map (bk (dw o)) ∧
    bg H ((.sl b8 0 1 4,4,[[u0,u1,u2,gi 0]]) :: (u3,1,bP kl) ::
      (u1,1,jg (o.map fun x=>g.ay.getD x.toNat ⟨#[]⟩)) :: (u0,3,g.az.map cE) :: (u2,3,fV bs) :: (.sl b2 0 1 4,4,[[.emp 1,.emp 1,.emp 1,gi 0]]) :: kE bs) ∧
    H b9=.map (vU mm) cc) ∧
  T 1=.aR (aw g) 0∧T 2=.ptr b2 0 0∧T 7=u3∧T 8=.ptr b8 0 0∧T 9=.mp b9∧T 91=u3∧T 92=gi kl.length∧T 93=gi i
def Qa (g:ao) (b2 b8 b9 b16 b17:Nat) (u3 v:V) (o kl:List Int) (mm:cm Int) (cc:Nat) (r:aT) (L:List ew) (i k:Nat) (T:Env) (H:View):Prop :=
  bg H ((.sl b17 0 1 3,3,[[gi (dw o r.left),v,gi r.prec]]) :: (v,1,bP ((bk (dw o) r).right.take k ++ r.right.drop k)) :: (.sl b16 0 1 3,3,[ba r]) :: L) ∧
  H b9=.map (vU mm) cc∧T 1=.aR (aw g) 0∧T 2=.ptr b2 0 0∧T 7=u3∧T 8=.ptr b8 0 0∧T 9=.mp b9∧T 91=u3∧T 92=gi kl.length∧T 93=gi i∧T 17=.ptr b17 0 0∧T 113=v∧T 114=gi r.right.length∧T 115=gi k
set_option maxHeartbeats 8000000 in
theorem Gp (g:ao) (hg:g.Ok) (hs:g.Small):dE Tryz.prog 109 [.agg (aw g)] (uq (if bK g=true then
    if (aM g true).getD g.start.toNat false=true then (kp g (dw (bN (aM g true) (bH g) g.rules)) (aM g true) (bH g),cn (aM g true) (bH g) g.rules 0,0)
    else (rP,[],9)
  else (rP,[],1))):=by
  refine dE.of (eN g) ?_
  refine aC.of mixed y5 ?_
  simp (disch:=omega) only [↓wr,↓reduceIte,wq,ah,ag,aj,ab,ae,af,ai,isNil,Nat.reduceEqDiff,Nat.reduceAdd,Nat.reduceLT,Nat.reduceLeDiff,Int.reduceNeg,Int.reduceToNat,reduceCtorEq,vm,aw,encS]
  intro b2
  try simp (disch:=omega) only [↓wr,↓reduceIte,wq,ah,ag,aj,ab,ae,af,ai,isNil,Nat.reduceEqDiff,Nat.reduceAdd,Nat.reduceLT,Nat.reduceLeDiff,Int.reduceNeg,Int.reduceToNat,reduceCtorEq,aw,encS]
  refine aG.pure (rD g hg hs.names) (by kernel_rfl) ?_
  repeat' (first | (refine ax.dec (fun _=>?_) (fun _=>?_)) | (refine ax.eq (fun _=>?_) (fun _=>?_)) | (refine ax.ne (fun _=>?_) (fun _=>?_)) | (refine ax.split (fun _=>?_) (fun _=>?_)) | (simp (disch:=omega) only [↓wr,↓reduceIte,wq,ah,ag,aj,ab,ae,af,ai,isNil,Nat.reduceEqDiff,Nat.reduceAdd,Nat.reduceLT,Nat.reduceLeDiff,Int.reduceNeg,Int.reduceToNat,reduceCtorEq,aw,encS,set_set]))
  · rename_i hr
    rw[if_pos hr]
    refine aG.pure (s7 g hg hs).pure (by kernel_rfl) ?_
    simp (disch:=omega) only [↓wr,↓reduceIte,wq,ah,ag,aj,ab,ae,af,ai,isNil,Nat.reduceEqDiff,Nat.reduceAdd,Nat.reduceLT,Nat.reduceLeDiff,Int.reduceNeg,Int.reduceToNat,reduceCtorEq,aw,encS]
    refine aG.pure (Dm g hg hs).pure (by kernel_rfl) ?_
    have hf:=bL hr
    have h3:=hf.jJ
    have h4:=hf.start
    have hpl:=iS hr true
    have hql:=og hr
    generalize aM g true=p at hpl ⊢
    generalize bH g=q at hql ⊢
    have hps:p[g.start.toNat]?=some (p[g.start.toNat]'(by omega)):=List.getElem?_eq_getElem (by omega)
    have hpd:p.getD g.start.toNat false=p[g.start.toNat]'(by omega):=by simp[List.getD_eq_getElem?_getD,hps]
    generalize p[g.start.toNat]'(by omega)=s at hps hpd
    rw[hpd]
    simp (disch:=omega) only [↓wr,↓reduceIte,wq,ah,ag,aj,ab,ae,af,ai,isNil,Nat.reduceEqDiff,Nat.reduceAdd,Nat.reduceLT,Nat.reduceLeDiff,Int.reduceNeg,Int.reduceToNat,reduceCtorEq,aw,encS,bO,List.getElem?_map,hps]
    cases s with
    | false =>
      simp (disch:=omega) only [↓wr,↓reduceIte,wq,ah,ag,aj,ab,ae,af,ai,isNil,Nat.reduceEqDiff,Nat.reduceAdd,Nat.reduceLT,Nat.reduceLeDiff,Int.reduceNeg,Int.reduceToNat,reduceCtorEq,aw,encS,set_set]
      rintro h' hh
      exact uo
    | true =>
      simp (disch:=omega) only [↓wr,↓reduceIte,wq,ah,ag,aj,ab,ae,af,ai,isNil,Nat.reduceEqDiff,Nat.reduceAdd,Nat.reduceLT,Nat.reduceLeDiff,Int.reduceNeg,Int.reduceToNat,reduceCtorEq,aw,encS,set_set]
      have hN:=hf.ay
      have hN1:=hf.rQ
      have hT:=hf.az
      have hR:=hf.rules
      refine aG.jR ((LK g.az (by omega) _).mono ?_)
      rintro u0 H1 ⟨hu0,hfr⟩
      have ho1:=(bg.nil.new (H:=fun _=>bM.dead) (n:=b2) rfl 4 [[.emp 1,.emp 1,.emp 1,gi 0]]).Iw hu0 hfr
      have c0:=ho1.head.cells
      have k0:=ho1.head.kg
      simp (disch:=omega) only [↓wr,↓reduceIte,wq,ah,ag,aj,ab,ae,af,ai,isNil,Nat.reduceEqDiff,Nat.reduceAdd,Nat.reduceLT,Nat.reduceLeDiff,Int.reduceNeg,Int.reduceToNat,reduceCtorEq,aw,encS,c0,k0]
      intro b8 hb8
      have ho2:=ho1.new hb8 4 [[u0,.emp 1,.emp 1,gi 0]]
      try simp (disch:=omega) only [↓wr,↓reduceIte,wq,ah,ag,aj,ab,ae,af,ai,isNil,Nat.reduceEqDiff,Nat.reduceAdd,Nat.reduceLT,Nat.reduceLeDiff,Int.reduceNeg,Int.reduceToNat,reduceCtorEq,aw,encS,c0,k0,set_set]
      intro b9 hb9
      have hb98:=(cR hb9 cK).1
      have hb9:=(cR (cR hb9 cK).2 cK).2
      have ho3:=(((ho2.fresh (n:=b9) (o:=.map [] 0) (by simp only[View.set,if_neg hb98]; exact hb9)).emp (k:=1) (sz:=1)).emp (k:=1) (sz:=1)).perm Iu.symm
      try simp (disch:=omega) only [↓wr,↓reduceIte,wq,ah,ag,aj,ab,ae,af,ai,isNil,Nat.reduceEqDiff,Nat.reduceAdd,Nat.reduceLT,Nat.reduceLeDiff,Int.reduceNeg,Int.reduceToNat,reduceCtorEq,aw,encS,c0,k0,set_set]
      refine bz.up g.rules.length (OL g p q b2 b8 b9 u0) ?_ ?_
      · refine ⟨⟨.emp 1,.emp 1,rfl,by simp[bN],by simp[bN],by rw[set_set]; exact ho3,[],0,by simp[View.set,bR],trivial⟩,rfl,rfl,rfl,rfl,rfl,rfl,rfl,rfl,rfl⟩
      clear ho1 ho2 ho3 hb8 hb9 hb98
      rintro i k T H2 hk ⟨⟨u1,u3,t7,hin,holen,ho,mm,cc,h9,hm9⟩,t1,t2,t5,t6,t8,t9,t41,t42,t43⟩
      simp (disch:=omega) only [↓wr,↓reduceIte,wq,ah,ag,aj,ab,ae,af,ai,isNil,Nat.reduceEqDiff,Nat.reduceAdd,Nat.reduceLT,Nat.reduceLeDiff,Int.reduceNeg,Int.reduceToNat,reduceCtorEq,ry,t1,t2,t5,t6,t7,t8,t9,t41,t42,t43,aw]
      refine ax.dec (fun hc=>?_) (fun hc=>?_)
      · have hg2:g.rules[i]?=some (g.rules[i]'(by omega)):=List.getElem?_eq_getElem (by omega)
        have hmem:g.rules[i]'(by omega)∈g.rules:=List.getElem_mem _
        have htk:g.rules.take (i+1)=g.rules.take i ++ [g.rules[i]'(by omega)]:=by rw[List.take_add_one,hg2]; rfl
        generalize g.rules[i]'(by omega)=r at hg2 hmem htk
        obtain ⟨hl1,hl2,hl3,hr6,hsy⟩:=hf.tP hg hmem
        have hqs:q[r.left.toNat]?=some (q[r.left.toNat]'(by omega)):=List.getElem?_eq_getElem (by omega)
        have hqd:q.getD r.left.toNat false=q[r.left.toNat]'(by omega):=by simp[List.getD_eq_getElem?_getD,hqs]
        generalize q[r.left.toNat]'(by omega)=qs at hqs hqd
        simp (disch:=omega) only [↓wr,↓reduceIte,wq,ah,ag,aj,ab,ae,af,ai,isNil,Nat.reduceEqDiff,Nat.reduceAdd,Nat.reduceLT,Nat.reduceLeDiff,Int.reduceNeg,Int.reduceToNat,reduceCtorEq,t1,t2,t5,t6,t7,t8,t9,t41,t42,t43,ba,encI,List.getElem?_map,hg2]
        intro b11 hb11
        have hoA:=ho.new hb11 3 [ba r]
        have n911:b9≠b11:=by rintro rfl; rw[h9] at hb11; simp at hb11
        try simp (disch:=omega) only [↓wr,↓reduceIte,wq,ah,ag,aj,ab,ae,af,ai,isNil,Nat.reduceEqDiff,Nat.reduceAdd,Nat.reduceLT,Nat.reduceLeDiff,Int.reduceNeg,Int.reduceToNat,reduceCtorEq,t1,t2,t5,t6,t7,t8,t9,t41,t42,t43,ba,encI,bO,List.getElem?_map,hqs,set_set]
        have hskip:∀ (T2:Env) (H':View),bE p q r=false→H'=H2.set b11 (.arr 3 [ba r])→T2 7=u3→T2 1=.aR (aw g) 0→T2 2=.ptr b2 0 0→T2 5=bO p→T2 6=bO q→T2 8=.ptr b8 0 0→T2 9=.mp b9→T2 41=.aZ (g.rules.map ba)→T2 42=gi g.rules.length→T2 43=gi ((i:Int)+1) →
            ∃ k',k' < k∧CP g.rules.length k' (OL g p q b2 b8 b9 u0) T2 H':=by
          intro T2 H' hkr hH' a7 a1 a2 a5 a6 a8 a9 a41 a42 a43
          have e1:bN p q (g.rules.take (i+1))=bN p q (g.rules.take i):=by rw[htk,rv,if_neg (by simp[hkr])]
          have e2:cn p q (g.rules.take (i+1)) 0=cn p q (g.rules.take i) 0:=by rw[htk,jM]; simp[cn,hkr]
          refine bq hk (by omega) ⟨⟨u1,u3,a7,by rw[e1]; exact hin,by rw[e1]; omega,by rw[e1,e2,hH']; exact hoA.tail,mm,cc,by rw[hH']; simp[View.set,n911,h9],by rw[e1]; exact hm9⟩,a1,a2,a5,a6,a8,a9,a41,a42,by rw[a43]; rfl⟩
        cases qs with
        | false =>
          simp (disch:=omega) only [↓wr,↓reduceIte,wq,ah,ag,aj,ab,ae,af,ai,isNil,Nat.reduceEqDiff,Nat.reduceAdd,Nat.reduceLT,Nat.reduceLeDiff,Int.reduceNeg,Int.reduceToNat,reduceCtorEq,t1,t2,t5,t6,t7,t8,t9,t41,t42,t43]
          refine hskip _ _ (by rw[bE,hqd]; rfl) ?_ ?_ ?_ ?_ ?_ ?_ ?_ ?_ ?_ ?_ ?_
          all_goals first | exact t7 | exact t1 | exact t2 | exact t5 | exact t6 | exact t8 | exact t9 | exact t41 | exact t42 | rfl | (rw[set_set]; rfl)
        | true =>
          simp (disch:=omega) only [↓wr,↓reduceIte,wq,ah,ag,aj,ab,ae,af,ai,isNil,Nat.reduceEqDiff,Nat.reduceAdd,Nat.reduceLT,Nat.reduceLeDiff,Int.reduceNeg,Int.reduceToNat,reduceCtorEq,t1,t2,t5,t6,t7,t8,t9,t41,t42,t43,ba,encI,bO]
          refine aG.pure (wv r p (hg.aH r hmem).2.2.1 (fun s hs'=>⟨(hsy s hs').1,fun h=>by rw[hpl]; exact (hsy s hs').2 h⟩)) (by kernel_rfl) ?_
          simp (disch:=omega) only [↓wr,↓reduceIte,wq,ah,ag,aj,ab,ae,af,ai,isNil,Nat.reduceEqDiff,Nat.reduceAdd,Nat.reduceLT,Nat.reduceLeDiff,Int.reduceNeg,Int.reduceToNat,reduceCtorEq,t1,t2,t5,t6,t7,t8,t9,t41,t42,t43]
          refine ax.split (fun hal=>?_) (fun hal=>?_)
          · simp (disch:=omega) only [↓wr,↓reduceIte,wq,ah,ag,aj,ab,ae,af,ai,isNil,Nat.reduceEqDiff,Nat.reduceAdd,Nat.reduceLT,Nat.reduceLeDiff,Int.reduceNeg,Int.reduceToNat,reduceCtorEq,t1,t2,t5,t6,t7,t8,t9,t41,t42,t43]
            have hkr:bE p q r=true:=by rw[bE,hqd,hal]; rfl
            intro m hm
            try simp (disch:=omega) only [↓wr,↓reduceIte,wq,ah,ag,aj,ab,ae,af,ai,isNil,Nat.reduceEqDiff,Nat.reduceAdd,Nat.reduceLT,Nat.reduceLeDiff,Int.reduceNeg,Int.reduceToNat,reduceCtorEq,t1,t2,t5,t6,t7,t8,t9,t41,t42,t43,cy]
            have hm11:=(cR hm cK).1
            have hm:=(cR (cR hm cK).2 cK).2
            have hoB:=(hoA.fresh (n:=m) (o:=.arr 1 [[gi i]]) (by simp only[View.set,if_neg hm11]; exact hm)).at 2 (by simp)
            have n9m:b9≠m:=by rintro rfl; rw[h9] at hm; simp at hm
            have hkl:(cn p q (g.rules.take i) 0).length≤40:=by
              rw[jx]
              have h1:=List.length_filter_le (bE p q) (g.rules.take i)
              have h2:(g.rules.take i).length≤i:=List.length_take_le _ _
              omega
            refine dK (by rw[set_set]; exact hoB) (by simp[aV]) (by unfold aO; simp at hkl ⊢; omega) (by unfold aO; simp at hkl ⊢; omega) ?_
            intro u3' H3 ho3 hleft
            have f11:=ho3.is 1 rfl (by simp)
            have f8:=ho3.is 2 rfl (by simp)
            have hleft':Left ((H2.set b11 (.arr 3 [ba r])).set m (.arr 1 [[gi i]])) H3 u3 u3':=by rw[set_set] at hleft; exact hleft
            have f9:H3 b9=.map (vU mm) cc:=hleft'.map (b:=b9) hoB.head (by simp[View.set,n911,n9m,h9])
            have hu1:cq u1=some (jg ((bN p q (g.rules.take i)).map fun x=>g.ay.getD x.toNat ⟨#[]⟩)).length:=(ho3.own 3 rfl).len
            simp only[ba,encI] at f11
            have e2:cn p q (g.rules.take (i+1)) 0=cn p q (g.rules.take i) 0 ++ [(i:Int)]:=by
              rw[htk,jM]; simp[cn,hkr,show i≤g.rules.length by omega]
            have e1:bN p q (g.rules.take (i+1))=dA (bN p q (g.rules.take i)) r:=by rw[htk,rv,if_pos hkr]
            generalize bN p q (g.rules.take i)=o at *
            generalize cn p q (g.rules.take i) 0=kl at *
            simp (disch:=omega) only [↓wr,↓reduceIte,wq,ah,ag,aj,ab,ae,af,ai,isNil,Nat.reduceEqDiff,Nat.reduceAdd,Nat.reduceLT,Nat.reduceLeDiff,Int.reduceNeg,Int.reduceToNat,reduceCtorEq,t1,t2,t5,t6,t8,t9,t41,t42,t43,f11,f8]
            refine Nx (kt:=3) (et:=3) (z:=gi 0) (by kernel_rfl) (by kernel_rfl) (jG .i64 Tryz.underlying3) (id:=b9) (c:=cc) (m:=mm) (k:=r.left) (by simp (disch:=omega) only [↓wr,↓reduceIte,wq,ah,ag,aj,ab,ae,af,ai,isNil,Nat.reduceEqDiff,Nat.reduceAdd,Nat.reduceLT,Nat.reduceLeDiff,Int.reduceNeg,Int.reduceToNat,reduceCtorEq,t9]) (by simp (disch:=omega) only [↓wr,↓reduceIte,wq,ah,ag,aj,ab,ae,af,ai,isNil,Nat.reduceEqDiff,Nat.reduceAdd,Nat.reduceLT,Nat.reduceLeDiff,Int.reduceNeg,Int.reduceToNat,reduceCtorEq]) f9 ?_
            rw[hm9.get,rG]
            have hob:o.length≤40:=by omega
            by_cases hx:r.left∈o
            · have e1':dA o r=o:=by rw[dA,if_pos hx]
              rw[if_pos hx]
              simp (disch:=omega) only [↓wr,↓reduceIte,wq,ah,ag,aj,ab,ae,af,ai,isNil,Nat.reduceEqDiff,Nat.reduceAdd,Nat.reduceLT,Nat.reduceLeDiff,Int.reduceNeg,Int.reduceToNat,reduceCtorEq,t1,t2,t5,t6,t8,t9,t41,t42,t43,Option.isSome_some]
              have ho4:=(((ho3.at 1 (by simp)).tail).perm (.swap _ _ _))
              refine bq hk (by omega) ⟨⟨u1,u3',rfl,by rw[e1,e1']; exact hin,by rw[e1,e1']; omega,?_,mm,cc,f9,by rw[e1,e1']; exact hm9⟩,t1,t2,t5,t6,t8,t9,t41,t42,rfl⟩
              rw[e1,e1',e2]
              simp only[List.map_append,List.map_cons,List.map_nil]
              exact ho4
            · have e1':dA o r=o ++ [r.left]:=by rw[dA,if_neg hx]
              rw[if_neg hx]
              have hgn:g.ay[r.left.toNat]?=some (g.ay[r.left.toNat]'(by omega)):=List.getElem?_eq_getElem (by omega)
              have hgnd:g.ay.getD r.left.toNat ⟨#[]⟩=g.ay[r.left.toNat]'(by omega):=by simp[List.getD_eq_getElem?_getD,hgn]
              generalize g.ay[r.left.toNat]'(by omega)=nm at hgn hgnd
              simp (disch:=omega) only [↓wr,↓reduceIte,wq,ah,ag,aj,ab,ae,af,ai,isNil,Nat.reduceEqDiff,Nat.reduceAdd,Nat.reduceLT,Nat.reduceLeDiff,Int.reduceNeg,Int.reduceToNat,reduceCtorEq,t1,t2,t5,t6,t8,t9,t41,t42,t43,Option.isSome_none,f11,f8,hu1,List.length_map]
              refine s8 (kt:=3) (et:=3) (by kernel_rfl) (jG .i64 Tryz.underlying3) (id:=b9) (c:=cc) (m:=mm) (k:=r.left) (v:=gi o.length) (by simp (disch:=omega) only [↓wr,↓reduceIte,wq,ah,ag,aj,ab,ae,af,ai,isNil,Nat.reduceEqDiff,Nat.reduceAdd,Nat.reduceLT,Nat.reduceLeDiff,Int.reduceNeg,Int.reduceToNat,reduceCtorEq,t9]) (by simp (disch:=omega) only [↓wr,↓reduceIte,wq,ah,ag,aj,ab,ae,af,ai,isNil,Nat.reduceEqDiff,Nat.reduceAdd,Nat.reduceLT,Nat.reduceLeDiff,Int.reduceNeg,Int.reduceToNat,reduceCtorEq]) (by simp (disch:=omega) only [↓wr,↓reduceIte,wq,ah,ag,aj,ab,ae,af,ai,isNil,Nat.reduceEqDiff,Nat.reduceAdd,Nat.reduceLT,Nat.reduceLeDiff,Int.reduceNeg,Int.reduceToNat,reduceCtorEq]) f9 ?_
              intro c'
              have n89:b8≠b9:=AS ho3 2 rfl f9
              have n119:b11≠b9:=AS ho3 1 rfl f9
              simp (disch:=omega) only [↓wr,↓reduceIte,wq,ah,ag,aj,ab,ae,af,ai,isNil,Nat.reduceEqDiff,Nat.reduceAdd,Nat.reduceLT,Nat.reduceLeDiff,Int.reduceNeg,Int.reduceToNat,reduceCtorEq,t1,t2,t5,t6,t8,t9,t41,t42,t43,f11,f8,n89,n119,aw,encS,List.getElem?_map,hgn]
              intro m2 hm2
              have hm29:=(cR hm2 (by simp)).1
              have hm2:=(cR hm2 (by simp)).2
              have ho5:=((ho3.wW f9 (o:=.map (vU (bV r.left (gi o.length) cc mm)) c')).fresh (n:=m2) (o:=.arr 1 [[gs nm]]) (by simp only[View.set,if_neg hm29]; exact hm2)).at 3 (by simp)
              try simp (disch:=omega) only [↓wr,↓reduceIte,wq,ah,ag,aj,ab,ae,af,ai,isNil,Nat.reduceEqDiff,Nat.reduceAdd,Nat.reduceLT,Nat.reduceLeDiff,Int.reduceNeg,Int.reduceToNat,reduceCtorEq,t1,t2,t5,t6,t8,t9,t41,t42,t43,cy]
              refine dK ho5 (by simp[aV]) (by unfold aO; simp; omega) (by unfold aO; simp; omega) ?_
              intro u1' H5 ho6 hleft2
              have c1:=ho6.head.cells
              have k1:=ho6.head.kg
              have f8':=ho6.is 3 rfl (by simp)
              have f9':=hleft2.map (b:=b9) (es:=vU (bV r.left (gi o.length) cc mm)) (c:=c') ho5.head (by simp[View.set,Ne.symm hm29])
              have n89':b9≠b8:=n89.symm
              simp (disch:=omega) only [↓wr,↓reduceIte,wq,ah,ag,aj,ab,ae,af,ai,isNil,Nat.reduceEqDiff,Nat.reduceAdd,Nat.reduceLT,Nat.reduceLeDiff,Int.reduceNeg,Int.reduceToNat,reduceCtorEq,t1,t2,t5,t6,t8,t9,t41,t42,t43,f8',c1,k1]
              have ho7:=(ho6.at 3 (by simp)).put (es':=[[u0,u1',.emp 1,gi 0]]) rfl rfl
              have ho8:=(((ho7.at 3 (by simp)).tail).perm (.cons _ (.swap _ _ _)))
              refine bq hk (by omega) ⟨⟨u1',u3',rfl,?_,?_,?_,_,c',(by simp only[View.set,if_neg n89']; exact f9'),?_⟩,t1,t2,t5,t6,t8,t9,t41,t42,rfl⟩
              · rw[e1,e1']; intro x hx'; rcases List.mem_append.1 hx' with h | h
                · exact hin x h
                · simp at h; subst h; exact ⟨hl2,hl3⟩
              · rw[e1,e1']; simp; omega
              · rw[e1,e1',e2]
                simp only[List.map_append,List.map_cons,List.map_nil,hgnd]
                exact ho8
              · rw[e1,e1',Bg,Int.zero_add,← Cx hx]
                exact hm9.put r.left (o.length:Int) cc
          · simp (disch:=omega) only [↓wr,↓reduceIte,wq,ah,ag,aj,ab,ae,af,ai,isNil,Nat.reduceEqDiff,Nat.reduceAdd,Nat.reduceLT,Nat.reduceLeDiff,Int.reduceNeg,Int.reduceToNat,reduceCtorEq,t1,t2,t5,t6,t7,t8,t9,t41,t42,t43]
            refine hskip _ _ (by rw[bE,hqd,hal]; rfl) ?_ ?_ ?_ ?_ ?_ ?_ ?_ ?_ ?_ ?_ ?_
            all_goals first | exact t7 | exact t1 | exact t2 | exact t5 | exact t6 | exact t8 | exact t9 | exact t41 | exact t42 | rfl | (rw[set_set]; rfl)
      · rw[List.take_of_length_le (by omega)] at ho hin holen hm9
        have hkl40:(cn p q g.rules 0).length≤40:=by
          rw[jx]; have h1:=List.length_filter_le (bE p q) g.rules; omega
        have hkg:=rj p q g.rules 0
        have hkln:=jx p q g.rules 0
        have hrg:kp g (dw (bN p q g.rules)) p q=⟨g.az,(bN p q g.rules).map fun x=>g.ay.getD x.toNat ⟨#[]⟩,(g.rules.filter (bE p q)).map (bk (dw (bN p q g.rules))),dw (bN p q g.rules) g.start⟩:=rfl
        rw[hrg,if_pos rfl]
        clear hrg
        generalize bN p q g.rules=o at *
        generalize cn p q g.rules 0=kl at *
        have hob:o.length≤40:=by omega
        have hu3:cq u3=some (bP kl).length:=(ho.own 1 rfl).len
        simp (disch:=omega) only [↓wr,↓reduceIte,wq,ah,ag,aj,ab,ae,af,ai,isNil,Nat.reduceEqDiff,Nat.reduceAdd,Nat.reduceLT,Nat.reduceLeDiff,Int.reduceNeg,Int.reduceToNat,reduceCtorEq,t1,t2,t5,t6,t7,t8,t9,hu3,List.length_map]
        refine bz.up kl.length (P4 g p q b2 b8 b9 u0 u1 u3 o kl mm cc) ?_ ?_
        · refine ⟨⟨.emp 1,[],by simp,?_,h9⟩,t1,t2,t7,t8,t9,t7,rfl,rfl⟩
          exact (ho.emp (k:=1) (sz:=3)).perm (qj [(.sl b8 0 1 4,4,[[u0,u1,.emp 1,gi 0]]),(u3,1,bP kl),(u1,1,jg (o.map fun x=>g.ay.getD x.toNat ⟨#[]⟩)),(u0,3,g.az.map cE),(.emp 1,3,[]),(.sl b2 0 1 4,4,[[.emp 1,.emp 1,.emp 1,gi 0]])] 4 (by simp)).symm
        clear ho h9 t1 t2 t5 t6 t7 t8 t9 t41 t42 t43
        rintro i k T H2 hk ⟨⟨u2,bs,hbs,ho,h9⟩,t1,t2,t7,t8,t9,t91,t92,t93⟩
        simp (disch:=omega) only [↓wr,↓reduceIte,wq,ah,ag,aj,ab,ae,af,ai,isNil,Nat.reduceEqDiff,Nat.reduceAdd,Nat.reduceLT,Nat.reduceLeDiff,Int.reduceNeg,Int.reduceToNat,reduceCtorEq,ri,t1,t2,t7,t8,t9,t91,t92,t93]
        refine ax.dec (fun hc=>?_) (fun hc=>?_)
        · obtain ⟨n3,e3,hn3⟩:=(ho.own 1 rfl).sl (by simp; omega)
          rw[List.length_map] at e3
          subst e3
          obtain ⟨m,hm1,hm2,hm3⟩:=hkg i (by omega)
          have hbg:=jD (show i < kl.length by omega)
          rw[Int.zero_add] at hm1
          have hki:kl[i]'(by omega)=(m:Int):=by
            rw[List.getElem?_eq_getElem (show i < kl.length by omega)] at hm1; simpa using hm1
          rw[hki] at hbg
          have hg2:g.rules[m]?=some (g.rules[m]'hm3):=List.getElem?_eq_getElem hm3
          have hmem:g.rules[m]'hm3∈g.rules:=List.getElem_mem _
          have htk:(g.rules.filter (bE p q)).take (i+1)=(g.rules.filter (bE p q)).take i ++ [g.rules[m]'hm3]:=by
            rw[List.take_add_one,← hm2,hg2]; rfl
          generalize g.rules[m]'hm3=r at hg2 hmem htk
          obtain ⟨hl1,hl2,hl3,hr6,hsy⟩:=hf.tP hg hmem
          simp (disch:=omega) only [↓wr,↓reduceIte,wq,ah,ag,aj,ab,ae,af,ai,isNil,Nat.reduceEqDiff,Nat.reduceAdd,Nat.reduceLT,Nat.reduceLeDiff,Int.reduceNeg,Int.reduceToNat,reduceCtorEq,t1,t2,t7,t8,t9,t91,t92,t93,hn3,hbg,List.length_map,aw,ba,encI,List.getElem?_map,hg2]
          refine ⟨by omega,by omega,?_⟩
          intro b16 hb16
          have hoA:=ho.new hb16 3 [ba r]
          have n916:b9≠b16:=by rintro rfl; rw[h9] at hb16; simp at hb16
          try simp (disch:=omega) only [↓wr,↓reduceIte,wq,ah,ag,aj,ab,ae,af,ai,isNil,Nat.reduceEqDiff,Nat.reduceAdd,Nat.reduceLT,Nat.reduceLeDiff,Int.reduceNeg,Int.reduceToNat,reduceCtorEq,t1,t2,t7,t8,t9,t91,t92,t93,set_set]
          refine xK (kt:=3) (et:=3) (z:=gi 0) (by kernel_rfl) (by kernel_rfl) (jG .i64 Tryz.underlying3) (id:=b9) (c:=cc) (m:=mm) (k:=r.left) (by simp (disch:=omega) only [↓wr,↓reduceIte,wq,ah,ag,aj,ab,ae,af,ai,isNil,Nat.reduceEqDiff,Nat.reduceAdd,Nat.reduceLT,Nat.reduceLeDiff,Int.reduceNeg,Int.reduceToNat,reduceCtorEq,t9]) (by simp (disch:=omega) only [↓wr,↓reduceIte,wq,ah,ag,aj,ab,ae,af,ai,isNil,Nat.reduceEqDiff,Nat.reduceAdd,Nat.reduceLT,Nat.reduceLeDiff,Int.reduceNeg,Int.reduceToNat,reduceCtorEq]) (by simp[View.set,n916,h9]) ?_
          have hgt:∀ x,(getM mm x).getD (gi 0)=gi (dw o x):=fun x=>by
            rw[hm9.get,dw]; cases dG (iK o 0) x <;> rfl
          rw[hgt]
          simp (disch:=omega) only [↓wr,↓reduceIte,wq,ah,ag,aj,ab,ae,af,ai,isNil,Nat.reduceEqDiff,Nat.reduceAdd,Nat.reduceLT,Nat.reduceLeDiff,Int.reduceNeg,Int.reduceToNat,reduceCtorEq,t1,t2,t7,t8,t9,t91,t92,t93]
          refine aG.HO (J4 r.right (by omega) _) ?_
          intro v H3 hv hfr
          have hoB:=bg.Iw (H:=H2.set b16 (.arr 3 [ba r])) hoA hv (by rw[set_set] at hfr; exact hfr)
          have h9B:H3 b9=.map (vU mm) cc:=by
            rw[(hfr b9 (by simp[View.set,n916,h9])).1]; simp[View.set,n916,h9]
          have cv:=hv.cells
          have kv:=hv.kg
          have lv:=hv.len
          have f16:=hoB.is 1 rfl (by simp)
          simp only[ba,encI] at f16
          simp (disch:=omega) only [↓wr,↓reduceIte,wq,ah,ag,aj,ab,ae,af,ai,isNil,Nat.reduceEqDiff,Nat.reduceAdd,Nat.reduceLT,Nat.reduceLeDiff,Int.reduceNeg,Int.reduceToNat,reduceCtorEq,t1,t2,t7,t8,t9,t91,t92,t93,f16,cv,kv]
          intro b17 hb17
          have hoC:=hoB.new hb17 3 [[gi (dw o r.left),v,gi r.prec]]
          have n917:b9≠b17:=by rintro rfl; rw[h9B] at hb17; simp at hb17
          try simp (disch:=omega) only [↓wr,↓reduceIte,wq,ah,ag,aj,ab,ae,af,ai,isNil,Nat.reduceEqDiff,Nat.reduceAdd,Nat.reduceLT,Nat.reduceLeDiff,Int.reduceNeg,Int.reduceToNat,reduceCtorEq,t1,t2,t7,t8,t9,t91,t92,t93,cv,kv,lv,set_set,List.length_map]
          generalize hL:((V.sl b8 0 1 4,4,[[u0,u1,u2,gi 0]]) :: (V.sl n3 0 kl.length 1,1,bP kl) ::
              (u1,1,jg (o.map fun x=>g.ay.getD x.toNat ⟨#[]⟩)) :: (u0,3,g.az.map cE) :: (u2,3,fV bs) :: (V.sl b2 0 1 4,4,[[V.emp 1,V.emp 1,V.emp 1,gi 0]]) :: kE bs:List ew)=L at hoC
          refine bz.up r.right.length (Qa g b2 b8 b9 b16 b17 (.sl n3 0 kl.length 1) v o kl mm cc r L i) ?_ ?_
          · exact ⟨by rw[set_set]; exact hoC,by simp[View.set,n917,h9B],t1,t2,t7,t8,t9,t91,t92,t93,rfl,rfl,rfl,rfl⟩
          clear hoA hoB hoC hb16 hb17 h9 h9B f16 hv hfr t1 t2 t7 t8 t9 t91 t92 t93
          rintro k k2 T H3 hk2 ⟨hoC,h9,t1,t2,t7,t8,t9,t91,t92,t93,t17,t113,t114,t115⟩
          have f17:=hoC.is 0 rfl (by simp)
          simp (disch:=omega) only [↓wr,↓reduceIte,wq,ah,ag,aj,ab,ae,af,ai,isNil,Nat.reduceEqDiff,Nat.reduceAdd,Nat.reduceLT,Nat.reduceLeDiff,Int.reduceNeg,Int.reduceToNat,reduceCtorEq,rR,t1,t2,t7,t8,t9,t91,t92,t93,t17,t113,t114,t115]
          refine ax.dec (fun hcc=>?_) (fun hcc=>?_)
          · have hgs:r.right[k]?=some (r.right[k]'(by omega)):=List.getElem?_eq_getElem (by omega)
            have hms:r.right[k]'(by omega)∈r.right:=List.getElem_mem _
            have hrl:(bk (dw o) r).right.length=r.right.length:=by simp[bk]
            have hts:(bk (dw o) r).right.take (k+1)=(bk (dw o) r).right.take k ++ [if r.right[k]'(by omega) < 0 then -1 - dw o (-1 - r.right[k]'(by omega)) else r.right[k]'(by omega)]:=by
              rw[List.take_add_one]; simp[bk,hgs]
            have hdr:=eP (show k < r.right.length by omega)
            generalize r.right[k]'(by omega)=s at hgs hms hts hdr
            obtain ⟨⟨s1,s2⟩,s3⟩:=hsy s hms
            have hbd:=Oi o (-1 - s)
            rw[hdr] at hoC
            have hlen:(((bk (dw o) r).right.take k ++ s :: r.right.drop (k+1)).map fun x=>[gi x]).length=r.right.length:=by simp; omega
            obtain ⟨nv,ev,hnv⟩:=(hoC.own 1 rfl).sl (by rw[hlen]; omega)
            rw[hlen] at ev
            subst ev
            have hlt:k < ((bk (dw o) r).right.take k ++ s :: r.right.drop (k+1)).length:=by simp; omega
            have hbg2:=jD hlt
            have hel:((bk (dw o) r).right.take k ++ s :: r.right.drop (k+1))[k]'hlt=s:=by
              rw[List.getElem_append_right (by simp; omega)]
              simp[show k - min k r.right.length=0 by omega,hrl]
            rw[hel] at hbg2
            simp (disch:=omega) only [↓wr,↓reduceIte,wq,ah,ag,aj,ab,ae,af,ai,isNil,Nat.reduceEqDiff,Nat.reduceAdd,Nat.reduceLT,Nat.reduceLeDiff,Int.reduceNeg,Int.reduceToNat,reduceCtorEq,t1,t2,t7,t8,t9,t91,t92,t93,t17,t113,t114,t115,hnv,hbg2,List.length_map]
            refine ⟨by omega,hlt,?_⟩
            have hlk:((bk (dw o) r).right.take k).length=k:=by rw[List.length_take]; omega
            have nv9:nv≠b9:=AS hoC 1 rfl h9
            refine ax.dec (fun hneg=>?_) (fun hneg=>?_)
            · rw[if_pos hneg] at hts
              simp (disch:=omega) only [↓wr,↓reduceIte,wq,ah,ag,aj,ab,ae,af,ai,isNil,Nat.reduceEqDiff,Nat.reduceAdd,Nat.reduceLT,Nat.reduceLeDiff,Int.reduceNeg,Int.reduceToNat,reduceCtorEq,t1,t2,t7,t8,t9,t91,t92,t93,t17,t113,t114,t115,f17]
              refine xK (kt:=3) (et:=3) (z:=gi 0) (by kernel_rfl) (by kernel_rfl) (jG .i64 Tryz.underlying3) (id:=b9) (c:=cc) (m:=mm) (k:=-1 - s) (by simp (disch:=omega) only [↓wr,↓reduceIte,wq,ah,ag,aj,ab,ae,af,ai,isNil,Nat.reduceEqDiff,Nat.reduceAdd,Nat.reduceLT,Nat.reduceLeDiff,Int.reduceNeg,Int.reduceToNat,reduceCtorEq,t9]) (by simp (disch:=omega) only [↓wr,↓reduceIte,wq,ah,ag,aj,ab,ae,af,ai,isNil,Nat.reduceEqDiff,Nat.reduceAdd,Nat.reduceLT,Nat.reduceLeDiff,Int.reduceNeg,Int.reduceToNat,reduceCtorEq]) h9 ?_
              rw[hgt]
              simp (disch:=omega) only [↓wr,↓reduceIte,wq,ah,ag,aj,ab,ae,af,ai,isNil,Nat.reduceEqDiff,Nat.reduceAdd,Nat.reduceLT,Nat.reduceLeDiff,Int.reduceNeg,Int.reduceToNat,reduceCtorEq,t1,t2,t7,t8,t9,t91,t92,t93,t17,t113,t114,t115,f17,hnv,hbg2,List.length_map]
              refine ⟨by omega,hlt,?_⟩
              have hoD:=((hoC.at 1 (by simp)).put (es':=((((bk (dw o) r).right.take k ++ s :: r.right.drop (k+1)).map fun x=>[gi x]).set k [gi (-1 - dw o (-1 - s))])) (by simp) (by rw[hlen])).perm (.swap _ _ _)
              refine bq hk2 (by omega) ⟨?_,by simp only[View.set,if_neg nv9.symm]; exact h9,t1,t2,t7,t8,t9,t91,t92,t93,t17,t113,t114,rfl⟩
              rw[ints_set,B4 hlk] at hoD
              rw[hts,List.append_assoc]
              rw[ints_set,B4 hlk]
              exact hoD
            · rw[if_neg hneg] at hts
              simp (disch:=omega) only [↓wr,↓reduceIte,wq,ah,ag,aj,ab,ae,af,ai,isNil,Nat.reduceEqDiff,Nat.reduceAdd,Nat.reduceLT,Nat.reduceLeDiff,Int.reduceNeg,Int.reduceToNat,reduceCtorEq,t1,t2,t7,t8,t9,t91,t92,t93,t17,t113,t114,t115]
              refine bq hk2 (by omega) ⟨?_,h9,t1,t2,t7,t8,t9,t91,t92,t93,t17,t113,t114,rfl⟩
              rw[hts,List.append_assoc]
              exact hoC
          · rw[List.take_of_length_le (by simp[bk]; omega),List.drop_eq_nil_of_le (by omega),List.append_nil] at hoC
            subst hL
            have f8:=hoC.is 3 rfl (by simp)
            have cv:=(hoC.own 1 rfl).cells
            have kv:=(hoC.own 1 rfl).kg
            have hbl:(fV bs).length≤40:=by
              have h1:=congrArg List.length hbs
              simp only[List.length_map,List.length_take] at h1
              simp only[fV,List.length_map]
              omega
            simp (disch:=omega) only [↓wr,↓reduceIte,wq,ah,ag,aj,ab,ae,af,ai,isNil,Nat.reduceEqDiff,Nat.reduceAdd,Nat.reduceLT,Nat.reduceLeDiff,Int.reduceNeg,Int.reduceToNat,reduceCtorEq,t1,t2,t7,t8,t9,t91,t92,t93,t17,t113,t114,t115,f8,f17,cv,kv]
            intro m hm
            have n9m:b9≠m:=by rintro rfl; rw[h9] at hm; simp at hm
            try simp (disch:=omega) only [↓wr,↓reduceIte,wq,ah,ag,aj,ab,ae,af,ai,isNil,Nat.reduceEqDiff,Nat.reduceAdd,Nat.reduceLT,Nat.reduceLeDiff,Int.reduceNeg,Int.reduceToNat,reduceCtorEq,t1,t2,t7,t8,t9,t91,t92,t93,t17,cy]
            have hoD:=(hoC.fresh (o:=.arr 3 [[gi (dw o r.left),v,gi r.prec]]) hm).at 7 (by simp)
            refine dK hoD (by simp[xY,kv]) (by unfold aO; simp at hbl ⊢; omega) (by unfold aO; simp at hbl ⊢; omega) ?_
            intro u2' H4 hoE hleft
            have cu:=hoE.head.cells
            have ku:=hoE.head.kg
            have f8':=hoE.is 4 rfl (by simp)
            have h9':H4 b9=.map (vU mm) cc:=hleft.map (b:=b9) hoD.head (by simp[View.set,n9m,h9])
            have n98:b9≠b8:=(AS hoE 4 rfl h9').symm
            simp (disch:=omega) only [↓wr,↓reduceIte,wq,ah,ag,aj,ab,ae,af,ai,isNil,Nat.reduceEqDiff,Nat.reduceAdd,Nat.reduceLT,Nat.reduceLeDiff,Int.reduceNeg,Int.reduceToNat,reduceCtorEq,t1,t2,t7,t8,t9,t91,t92,t93,t17,f8',cu,ku]
            have hoF:=(hoE.at 4 (by simp)).put (es':=[[u0,u1,u2',gi 0]]) rfl rfl
            have hoG:=((((hoF.at 2 (by simp)).tail).at 3 (by simp)).tail)
            refine bq hk (by omega) ⟨⟨u2',bs ++ [(v,bk (dw o) r)],?_,?_,by simp only[View.set,if_neg n98]; exact h9'⟩,t1,t2,t7,t8,t9,t91,t92,rfl⟩
            · rw[List.map_append,hbs,htk,List.map_append]; rfl
            · refine hoG.perm (.cons _ ?_)
              simp only[kE,fV,List.map_append,List.map_cons,List.map_nil]
              refine .trans ?_ (qj _ 3 (by simp)).symm
              refine .cons _ ?_
              exact (List.perm_append_singleton (v,1,bP (bk (dw o) r).right) ((.sl n3 0 kl.length 1,1,bP kl) :: (u1,1,jg (o.map fun x=>g.ay.getD x.toNat ⟨#[]⟩)) :: (u0,3,g.az.map cE) :: (.sl b2 0 1 4,4,[[.emp 1,.emp 1,.emp 1,gi 0]]) :: kE bs)).symm
        · rw[List.take_of_length_le (by omega)] at hbs
          have f8:=ho.is 0 rfl (by simp)
          have f2:=ho.is 5 rfl (by simp)
          have n82:b8≠b2:=ho.Lw 0 5 rfl rfl (by omega)
          have c1:=(ho.own 2 rfl).cells
          have k1:=(ho.own 2 rfl).kg
          have c2:=(ho.own 4 rfl).cells
          have k2:=(ho.own 4 rfl).kg
          have hgt:∀ x,(getM mm x).getD (gi 0)=gi (dw o x):=fun x=>by
            rw[hm9.get,dw]; cases dG (iK o 0) x <;> rfl
          simp (disch:=omega) only [↓wr,↓reduceIte,wq,ah,ag,aj,ab,ae,af,ai,isNil,Nat.reduceEqDiff,Nat.reduceAdd,Nat.reduceLT,Nat.reduceLeDiff,Int.reduceNeg,Int.reduceToNat,reduceCtorEq,t1,t2,t7,t8,t9,t91,t92,t93,aw]
          refine xK (kt:=3) (et:=3) (z:=gi 0) (by kernel_rfl) (by kernel_rfl) (jG .i64 Tryz.underlying3) (id:=b9) (c:=cc) (m:=mm) (k:=g.start) (by simp (disch:=omega) only [↓wr,↓reduceIte,wq,ah,ag,aj,ab,ae,af,ai,isNil,Nat.reduceEqDiff,Nat.reduceAdd,Nat.reduceLT,Nat.reduceLeDiff,Int.reduceNeg,Int.reduceToNat,reduceCtorEq,t9]) (by simp (disch:=omega) only [↓wr,↓reduceIte,wq,ah,ag,aj,ab,ae,af,ai,isNil,Nat.reduceEqDiff,Nat.reduceAdd,Nat.reduceLT,Nat.reduceLeDiff,Int.reduceNeg,Int.reduceToNat,reduceCtorEq]) h9 ?_
          rw[hgt]
          simp (disch:=omega) only [↓wr,↓reduceIte,wq,ah,ag,aj,ab,ae,af,ai,isNil,Nat.reduceEqDiff,Nat.reduceAdd,Nat.reduceLT,Nat.reduceLeDiff,Int.reduceNeg,Int.reduceToNat,reduceCtorEq,t1,t2,t7,t8,t9,t91,t92,t93,f8,f2,n82,n82.symm,c0,k0,c1,k1,c2,k2]
          intro h' hh
          have hoA:=ho.put (es':=[[u0,u1,u2,gi (dw o g.start)]]) rfl rfl
          have hoB:=(hoA.at 5 (by simp)).put (es':=[[u0,u1,u2,gi (dw o g.start)]]) rfl rfl
          have hv:h'.view=(H2.set b8 (.arr 4 [[u0,u1,u2,gi (dw o g.start)]])).set b2 (.arr 4 [[u0,u1,u2,gi (dw o g.start)]]):=hh
          rw[← hv] at hoB
          exact GD (x:=(⟨g.az,o.map fun x=>g.ay.getD x.toNat ⟨#[]⟩,(g.rules.filter (bE p q)).map (bk (dw o)),dw o g.start⟩,kl,0)) (b:=bs) (hoB.own 4 rfl) (hoB.own 3 rfl) (hoB.own 5 rfl) (fun y hy=>hoB.1 y (by
            refine List.mem_cons_of_mem _ (List.mem_cons_of_mem _ (List.mem_cons_of_mem _ (List.mem_cons_of_mem _ (List.mem_cons_of_mem _ (List.mem_cons_of_mem _ ?_)))))
            exact hy)) hbs (hoB.own 2 rfl)
  · rename_i hr
    intro h' hh
    rw[if_neg (by simp[hr])]
    exact uo
theorem Hm {l:List Int} {a b:List Bool} {t:Bool} (h:fT a b) (k:dP l a t=true):dP l b t=true:=by
  simp only[dP,List.all_eq_true] at k ⊢
  intro s hs
  have:=k s hs
  by_cases h0:0≤s
  · rw[if_pos h0] at this ⊢; exact this
  · rw[if_neg h0] at this ⊢; exact h.2 _ this
theorem fT.IJ {a b:List Bool} (h:fT a b) (k:fT b a):a=b:=by
  have h1:=h.ep
  have h2:=k.ep
  exact h1.2 (by omega)
def mz (g:ao) (t:Bool) (is:List Bool):Prop:=∀ i,is.getD i false=true→∃ r∈g.rules,r.left.toNat=i∧dP r.right is t=true
theorem mz.step {g:ao} {t:Bool} {is:List Bool} {r:aT} (h:mz g t is) (hr:r∈g.rules):mz g t (dL t is r):=by
  have hle:fT is (dL t is r):=by
    unfold dL
    split
    · exact .set _ _
    · exact .refl _
  intro i hi
  by_cases e:is.getD i false=true
  · obtain ⟨r',h1,h2,h3⟩:=h i e
    exact ⟨r',h1,h2,Hm hle h3⟩
  · unfold dL at hi
    by_cases ha:dP r.right is t=true
    · rw[if_pos ha] at hi
      have:r.left.toNat=i:=by
        refine Classical.byContradiction fun hne=>e ?_
        simp only[List.getD_eq_getElem?_getD,List.getElem?_set,if_neg hne] at hi ⊢
        exact hi
      exact ⟨r,hr,this,Hm hle ha⟩
    · rw[if_neg ha] at hi; exact absurd hi e
theorem mz.fold {g:ao} {t:Bool} : ∀ (l:List aT) (is:List Bool),(∀ r∈l,r∈g.rules)→mz g t is→mz g t (l.foldl (dL t) is)
  | [],is,_,h=>h
  | r :: l,is,hl,h=>mz.fold l _ (fun x hx=>hl x (by simp[hx])) (h.step (hl r (by simp)))
theorem mz.iter {g:ao} {t:Bool} : ∀ (n:Nat) (is:List Bool),mz g t is→mz g t (iter (iV g t) n is)
  | 0,_,h=>h
  | n+1,is,h=>mz.iter n _ (mz.fold g.rules is (fun _ h=>h) h)
theorem I7 (g:ao) (t:Bool):mz g t (aM g t):=by
  unfold aM
  split
  · refine mz.iter _ _ ?_
    intro i hi
    simp only[bW,List.getD_eq_getElem?_getD,List.getElem?_replicate] at hi
    split at hi <;> simp at hi
  · intro i hi; simp at hi
theorem Ht (is:List Bool) (s:Int):fT is (mark is s):=by
  unfold mark
  split
  · exact .set _ _
  · exact .refl _
theorem y7:∀ (l:List Int) (is:List Bool),fT is (l.foldl mark is)
  | [],is=>.refl _
  | s :: l,is=>(Ht is s).trans (y7 l _)
theorem EL (p is:List Bool) (r:aT):fT is (eZ p is r):=by
  unfold eZ
  split
  · exact y7 _ _
  · exact .refl _
theorem Fv (p:List Bool):∀ (l:List aT) (is:List Bool),fT is (l.foldl (eZ p) is)
  | [],is=>.refl _
  | r :: l,is=>(EL p is r).trans (Fv p l _)
theorem CJ {p:List Bool} : ∀ {l:List aT} {is:List Bool},l.foldl (eZ p) is=is→∀ r∈l,eZ p is r=is
  | [],_,_,_,h=>by simp at h
  | r :: l,is,h,x,hx=>by
    rw[List.foldl_cons] at h
    have h1:=Fv p l (eZ p is r)
    rw[h] at h1
    have h2:=(h1.IJ (EL p is r))
    rcases List.mem_cons.1 hx with rfl | hx
    · exact h2
    · rw[h2] at h; exact CJ h x hx
theorem Cn:∀ {l:List Int} {is:List Bool},l.foldl mark is=is→∀ s∈l,mark is s=is
  | [],_,_,_,h=>by simp at h
  | r :: l,is,h,x,hx=>by
    rw[List.foldl_cons] at h
    have h1:=y7 l (mark is r)
    rw[h] at h1
    have h2:=(h1.IJ (Ht is r))
    rcases List.mem_cons.1 hx with rfl | hx
    · exact h2
    · rw[h2] at h; exact Cn h x hx
theorem Cb {g:ao} (hr:bK g=true):lV g (aM g true) (bH g)=bH g∧fT ((bW g).set g.start.toNat true) (bH g):=by
  have hf:=bL hr
  have h:=rK (qV (aM g true)) g.rules 16 ((bW g).set g.start.toNat true) (by have:=hf.ay; simp[bW]; omega)
  rw[Ha,KD hr] at h
  exact h
theorem yk {g:ao} (hr:bK g=true):(bH g).getD g.start.toNat false=true:=by
  have hf:=bL hr
  refine (Cb hr).2.2 _ ?_
  have h3:=hf.jJ
  have h4:=hf.start
  simp only[List.getD_eq_getElem?_getD]
  rw[List.getElem?_set_self (by simp[bW]; omega)]
  rfl
theorem Ad {g:ao} (hr:bK g=true) {r:aT} (hm:r∈g.rules) (hk:bE (aM g true) (bH g) r=true) {s:Int} (hs:s∈r.right) (hn:s < 0):(bH g).getD (-1 - s).toNat false=true:=by
  have hf:=bL hr
  have h1:=CJ (Cb hr).1 r hm
  unfold eZ at h1
  rw[bE] at hk
  rw[if_pos hk] at h1
  have h2:=Cn h1 s hs
  unfold mark at h2
  rw[if_pos hn] at h2
  rw[← h2]
  have hl:=og hr
  have:=hf.neg hm hs hn
  simp only[List.getD_eq_getElem?_getD]
  rw[List.getElem?_set_self (by omega)]
  rfl
theorem Lp {g:ao} (hr:bK g=true) {x:Int} (h0:0≤x) (hp:(aM g true).getD x.toNat false=true) (hq:(bH g).getD x.toNat false=true):x∈bN (aM g true) (bH g) g.rules:=by
  obtain ⟨r,h1,h2,h3⟩:=I7 g true _ hp
  have hf:=bL hr
  have h4:=hf.left r h1
  have:r.left=x:=by omega
  refine F3.2 ⟨r,h1,?_,this⟩
  rw[bE,this,hq,h3]; rfl
theorem I2 (g:ao):(if bK g=true then
    if (aM g true).getD g.start.toNat false=true then (kp g (dw (bN (aM g true) (bH g) g.rules)) (aM g true) (bH g),cn (aM g true) (bH g) g.rules 0,0)
    else (rP,[],9)
  else (rP,[],1))=fi g:=by
  unfold fi
  by_cases hr:bK g=true
  · rw[if_pos hr,if_pos hr]
    by_cases hp:(aM g true).getD g.start.toNat false=true
    · rw[if_pos hp,if_pos hp]
      have hf:=bL hr
      rw[J0]
      · exact Lp hr hf.jJ hp (yk hr)
      · intro r hm
        obtain ⟨h1,h2⟩:=List.mem_filter.1 hm
        refine ⟨F3.2 ⟨r,h1,h2,rfl⟩,fun s hs hn=>?_⟩
        refine Lp hr (by omega) ?_ (Ad hr h1 h2 hs hn)
        rw[bE,Bool.and_eq_true] at h2
        have:=h2.2
        simp only[dP,List.all_eq_true] at this
        have:=this s hs
        rwa [if_neg (by omega)] at this
    · rw[if_neg hp,if_neg hp]
  · rw[if_neg hr,if_neg hr]
theorem Jl (g:ao) (hg:g.Ok) (hs:g.Small):dE Tryz.prog 109 [.agg (aw g)] (uq (fi g)):=by
  rw[← I2]; exact Gp g hg hs
end Gv
