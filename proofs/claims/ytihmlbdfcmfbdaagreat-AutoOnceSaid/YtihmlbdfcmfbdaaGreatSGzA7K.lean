/-
  Part 11 of the proof: what the machine does and what the functions answer.
  Conditions: those that each lemma names.
-/
import Derived.ProofKit
import Derived.SizedLaws
import Derived.Test.YtihmlbdfcmfbdaaGreatSGzA7J
set_option linter.unusedSimpArgs false
set_option linter.unusedVariables false
set_option maxRecDepth 100000
namespace Gv
open Go Go.Proofs
def kj:SC :=
  .seq (.seq (ak [aa 42 9,aa 43 8,aI 44 43,aK 45 .lss 42 44]) <|
  .cond (.tmp 45) (.skip) (.exit 0)) <|
  .seq (.block 1 (ak [aa 48 8,aa 49 9,aL 50 1 48 49,(none,.op (.store 1 (.tmp 50) (.val (.val (.int .i64 (-1))))))])) <|
  ak [aa 46 9,ay 47 .add 46 1,aa 9 47]
def km:SC :=
  .seq (.seq (ak [aa 51 11,aq 52 2 1,ao 53 52,aI 54 53,aK 55 .lss 51 54]) <|
  .cond (.tmp 55) (.skip) (.exit 2)) <|
  .seq (.block 3 (.seq (ak [aq 58 2 1,ao 59 58,aa 60 11,aL 61 3 59 60,aJ 62 3 61,((some 12),.op (.alloc [(.val (.int .i64 0)),(.emp 1),(.val (.int .i64 0))])),(none,.op (.store 3 (.tmp 12) (.tmp 62)))]) <|
  .seq (.seq (.region false [⟨none,[aa 63 6,aq 64 0 12,ao 65 64,aL 66 1 63 65,ao 67 66,bW 68 67,aa 69 68]⟩,⟨(some (69,false)),[aq 70 1 12,ao 71 70,aa 72 5,cU 73 117 [(.tmp 71),(.tmp 72),(.val (.val (.bool true)))],bW 74 73]⟩,⟨none,[bF 75 69 74]⟩]) <|
  .cond (.tmp 75) (.exit 3) (.skip)) <|
  .seq (ak [aa 76 10,aa 77 11,((some 78),.op (.bD 1 1 [(.val (.int .i64 0))] [(0,(.tmp 77))])),((some 79),.op (.app 1 8 (.tmp 76) (.tmp 78))),aa 10 79]) <|
  .seq (ak [aa 80 8,aq 81 0 12,ao 82 81,aL 83 1 80 82,ao 84 83,ay 85 .lss 84 0]) <|
  .cond (.tmp 85) (.seq (ak [aa 86 8,aq 87 0 12,ao 88 87,aq 89 1 7,ao 90 89,aI 91 90,aL 92 1 86 88,(none,.op (.store 1 (.tmp 92) (.tmp 91)))]) <|
  .region false [⟨none,[aq 93 1 7,ao 94 93,aq 95 1 1,ao 96 95,aq 97 0 12,ao 98 97,aL 99 1 96 98,ao 100 99,((some 101),.op (.bD 1 1 [(.val (.string ⟨#[]⟩))] [(0,(.tmp 100))])),((some 102),.op (.app 1 16 (.tmp 94) (.tmp 101))),aq 103 1 7,(none,.op (.store 1 (.tmp 103) (.tmp 102)))]⟩]) (.skip))) <|
  ak [aa 56 11,ay 57 .add 56 1,aa 11 57]
def kg:SC :=
  .seq (.seq (ak [aa 126 16,aq 127 1 14,ao 128 127,aI 129 128,aK 130 .lss 126 129]) <|
  .cond (.tmp 130) (.skip) (.exit 6)) <|
  .seq (.block 7 (.seq (ak [aq 133 1 14,ao 134 133,aa 135 16,aL 136 1 134 135,ao 137 136,aa 17 137]) <|
  .seq (.seq (ak [aa 138 17,ay 139 .lss 138 0]) <|
  .cond (.tmp 139) (ak [aa 140 8,aa 141 17,((some 142),.op (.arith .sub (.val (.val (.int .i64 (-1)))) (.tmp 141))),aL 143 1 140 142,ao 144 143,((some 145),.op (.arith .sub (.val (.val (.int .i64 (-1)))) (.tmp 144))),aa 17 145]) (.skip)) <|
  ak [aq 146 1 15,ao 147 146,aa 148 17,((some 149),.op (.bD 1 1 [(.val (.int .i64 0))] [(0,(.tmp 148))])),((some 150),.op (.app 1 8 (.tmp 147) (.tmp 149))),aq 151 1 15,(none,.op (.store 1 (.tmp 151) (.tmp 150)))])) <|
  ak [aa 131 16,ay 132 .add 131 1,aa 16 132]
def kf:SC :=
  .seq (.seq (ak [aa 104 13,aa 105 10,aI 106 105,aK 107 .lss 104 106]) <|
  .cond (.tmp 107) (.skip) (.exit 4)) <|
  .seq (.block 5 (.seq (ak [aq 110 2 1,ao 111 110,aa 112 10,aa 113 13,aL 114 1 112 113,ao 115 114,aL 116 3 111 115,aJ 117 3 116,((some 14),.op (.alloc [(.val (.int .i64 0)),(.emp 1),(.val (.int .i64 0))])),(none,.op (.store 3 (.tmp 14) (.tmp 117)))]) <|
  .seq (ak [aa 118 8,aq 119 0 14,ao 120 119,aL 121 1 118 120,ao 122 121,aq 123 2 14,ao 124 123,((some 125),.op (.build [(.val (.int .i64 0)),(.emp 1),(.val (.int .i64 0))] [(0,1,(.tmp 122)),(2,1,(.tmp 124))])),((some 15),.op (.alloc [(.val (.int .i64 0)),(.emp 1),(.val (.int .i64 0))])),(none,.op (.store 3 (.tmp 15) (.tmp 125)))]) <|
  .seq (.seq (ak [aD 16 0]) <|
  .block 6 (.loop kg)) <|
  ak [aq 152 2 7,ao 153 152,aJ 154 3 15,((some 155),.op (.bD 1 3 [(.val (.int .i64 0)),(.emp 1),(.val (.int .i64 0))] [(0,(.tmp 154))])),((some 156),.op (.app 3 40 (.tmp 153) (.tmp 155))),aq 157 2 7,(none,.op (.store 1 (.tmp 157) (.tmp 156)))])) <|
  ak [aa 108 13,ay 109 .add 108 1,aa 13 109]
def lE:SF:=⟨.seq (ak [cr 1 0,((some 2),.op (.alloc [(.emp 1),(.emp 1),(.emp 1),(.val (.int .i64 0))])),((some 3),.op (.bg (.val (.emp 1)))),aD 4 0]) <|
  .seq (.seq (ak [aJ 18 4 1,aF 19 54 [18],bW 20 19]) <|
  .cond (.tmp 20) (.seq (ak [((some 21),.op (.build [(.emp 1),(.emp 1),(.emp 1),(.val (.int .i64 0))] [])),(none,.op (.store 4 (.tmp 2) (.tmp 21))),((some 3),.op (.bg (.val (.emp 1)))),aD 4 1]) <|
  .ret) (.skip)) <|
  .seq (.region true [⟨none,[aJ 22 4 1,aF 23 115 [22],aJ 24 4 1,aF 25 116 [24],aa 5 23,aa 6 25]⟩]) <|
  .seq (.seq (ak [aa 26 5,aq 27 3 1,ao 28 27,aL 29 1 26 28,ao 30 29,bW 31 30]) <|
  .cond (.tmp 31) (.seq (ak [((some 32),.op (.build [(.emp 1),(.emp 1),(.emp 1),(.val (.int .i64 0))] [])),(none,.op (.store 4 (.tmp 2) (.tmp 32))),((some 3),.op (.bg (.val (.emp 1)))),aD 4 9]) <|
  .ret) (.skip)) <|
  .seq (ak [((some 33),.op (.bg (.val (.emp 2)))),aq 34 0 1,ao 35 34,((some 36),.op (.app 3 32 (.tmp 33) (.tmp 35))),((some 37),.op (.build [(.emp 1),(.emp 1),(.emp 1),(.val (.int .i64 0))] [(0,1,(.tmp 36))])),((some 7),.op (.alloc [(.emp 1),(.emp 1),(.emp 1),(.val (.int .i64 0))])),(none,.op (.store 4 (.tmp 7) (.tmp 37)))]) <|
  .seq (ak [aq 38 1 1,ao 39 38,aI 40 39,((some 41),.op (.make 1 8 [(.val (.int .i64 0))] (.tmp 40) (.tmp 40))),aa 8 41]) <|
  .seq (.seq (ak [aD 9 0]) <|
  .block 0 (.loop kj)) <|
  .seq (ak [((some 10),.op (.bg (.val (.emp 1))))]) <|
  .seq (.seq (ak [aD 11 0]) <|
  .block 2 (.loop km)) <|
  .seq (.seq (ak [aD 13 0]) <|
  .block 4 (.loop kf)) <|
  .seq (ak [aa 158 8,aq 159 3 1,ao 160 159,aL 161 1 158 160,ao 162 161,aq 163 3 7,(none,.op (.store 1 (.tmp 163) (.tmp 162)))]) <|
  .seq (ak [aJ 164 4 7,aa 165 10,(none,.op (.store 4 (.tmp 2) (.tmp 164))),aa 3 165,aD 4 0]) <|
  .ret,
  [.cell 2 (some 4),.tmp 3,.tmp 4],166⟩
theorem qx:bh Tryz.prog 70 [1]=some lE:=by kernel_rfl
abbrev bN (l:List Int):List (List V):=l.map fun x=>[gi x]
abbrev ja (l:List ByteArray):List (List V):=l.map fun s=>[gs s]
theorem jf {l:List Int} {i:Nat} (h:i < l.length):(bN l).getD i []=[gi l[i]]:=by simp[List.getD_eq_getElem?_getD,h]
theorem ints_set (l:List Int) (i:Nat) (x:Int):(bN l).set i [gi x]=bN (l.set i x):=by simp[List.map_set]
theorem MQ {l:List Int} (h:0 < l.length):bN l≠[]:=by intro e; rw[List.map_eq_nil_iff] at e; rw[e] at h; simp at h
theorem ur {α:Type} {x:α} : ∀ {l:List α} {i:Nat},i < l.length→(l.set i x).take (i+1)=l.take i ++ [x]
  | y :: l,0,_=>by simp
  | y :: l,i+1,h=>by
    have:=ur (x:=x) (l:=l) (i:=i) (by simpa using h)
    simp only[List.set_cons_succ,List.take_succ_cons,this,List.cons_append]
def dZ (n:Nat) (o:List Int):List Int:=(List.range n).map fun (x:Nat)=>bf o (x:Int)
theorem MP (n:Nat):dZ n []=List.replicate n (-1):=by
  apply List.ext_getElem
  · simp[dZ]
  · intro i h1 h2
    simp[dZ,bf,di]
theorem xf {n:Nat} {o:List Int} {x:Int} (h0:0≤x) (h1:x < n):(dZ n o)[x.toNat]'(by simp[dZ]; omega)=bf o x:=by
  simp[dZ,show ((x.toNat:Nat):Int)=x by omega]
theorem M3 {n:Nat} {o:List Int} {x:Int} (h0:0≤x) (h1:x < n) (hx:x ∉ o):(dZ n o).set x.toNat o.length=dZ n (o ++ [x]):=by
  apply List.ext_getElem
  · simp[dZ]
  · intro i h2 h3
    rw[List.getElem_set]
    simp only[dZ,List.getElem_map,List.getElem_range]
    rw[Kj hx]
    by_cases e:x.toNat=i
    · rw[if_pos e,if_pos (by omega)]
    · rw[if_neg e,if_neg (by omega)]
abbrev wV:=List (V × aM)
def fM (b:wV):List (List V):=b.map fun x=>[gi x.2.left,x.1,gi x.2.prec]
def kx (b:wV):List er:=b.map fun x=>(x.1,1,bN x.2.right)
theorem I0 {h:aB} {u:V} {b:wV} (ho:aW h.view u 3 (fM b)) (hb:∀ x∈kx b,aW h.view x.1 x.2.1 x.2.2):dA h u (.aV ((b.map (·.2)).map aU)):=by
  refine dA.own ho (by simp[fM]) (fun i hi=>?_) (fun i j hi hj=>?_)
  all_goals
    simp only[fM,List.length_map] at hi
    have e1:(fM b).getD i []=[gi b[i].2.left,b[i].1,gi b[i].2.prec]:=by simp[fM,List.getD_eq_getElem?_getD,hi]
    have e2:((b.map (·.2)).map aU).getD i []=aU b[i].2:=by simp[List.getD_eq_getElem?_getD,hi]
  · rw[e1,e2]; rfl
  · rw[e1,e2]
    rw[e2] at hj
    have hm:b[i]∈b:=List.getElem_mem _
    have ho:=hb (b[i].1,1,bN b[i].2.right) (List.mem_map.2 ⟨_,hm,rfl⟩)
    match j,hj with
    | 0,_=>exact .val _
    | 1,_=>exact qk ho
    | 2,_=>exact .val _
    | n+3,hj=>exact absurd hj (by simp only[aU,List.length_cons,List.length_nil]; omega)
theorem Lu {h:aB} {u:V} {l:List ByteArray} (ho:aW h.view u 1 (ja l)):dA h u (encS l):=dA.Md (f:=Value.string) ho
theorem KG {h:aB} {u:V} {l:List Term} (ho:aW h.view u 3 (l.map cp)):dA h u (dC l):=by
  refine dA.own ho rfl (fun _ _=>rfl) (fun i j hi hj=>?_)
  simp only[List.length_map] at hi
  have e1:(l.map cp).getD i []=cp l[i]:=by simp[List.getD_eq_getElem?_getD,hi]
  rw[e1] at hj ⊢
  match j,hj with
  | 0,_=>exact .val _
  | 1,_=>exact .val _
  | 2,_=>exact .val _
  | n+3,hj=>exact absurd hj (by simp only[cp,List.length_cons,List.length_nil]; omega)
def tX (x:an × List Int × Int):V:=.bk [.agg (aw x.1),encI x.2.1,gi x.2.2]
theorem uh {h:aB} {e:Int} {k1 k2 k3 k4:Nat} : dA h (.bk [.agg [.emp k1,.emp k2,.emp k3,gi 0],.emp k4,gi e]) (tX (qC,[],e)):=by
  refine .bk _ _ rfl fun i hi=>?_
  match i,hi with
  | 0,_ =>
    refine .agg _ _ rfl fun j hj=>?_
    match j,hj with
    | 0,_=>exact .emp _
    | 1,_=>exact .emp _
    | 2,_=>exact .emp _
    | 3,_=>exact .val _
    | n+4,hj=>exact absurd hj (by simp only[List.length_cons,List.length_nil]; omega)
  | 1,_=>exact .emp _
  | 2,_=>exact .val _
  | n+3,hi=>exact absurd hi (by simp only[List.length_cons,List.length_nil]; omega)
def NZ (g:an) (p q:List Bool) (b2 b7 b8:Nat) (u0:V) (i:Nat) (T:Env) (H:View):Prop :=
  (∃ u1 u3:V,T 10=u3∧(∀ x∈bK p q (g.rules.take i),0≤x∧x < g.au.length)∧(bK p q (g.rules.take i)).Nodup∧(bK p q (g.rules.take i)).length≤i ∧
    bc H [(.sl b7 0 1 4,4,[[u0,u1,.emp 1,gi 0]]),(.sl b8 0 g.au.length 1,1,bN (dZ g.au.length (bK p q (g.rules.take i)))),(u3,1,bN (b6 p q (g.rules.take i) 0)),
      (u1,1,ja ((bK p q (g.rules.take i)).map fun x=>g.au.getD x.toNat ⟨#[]⟩)),(u0,3,g.ax.map cp),(.sl b2 0 1 4,4,[[.emp 1,.emp 1,.emp 1,gi 0]])]) ∧
  T 1=.aO (aw g) 0∧T 2=.ptr b2 0 0∧T 5=bM p∧T 6=bM q∧T 7=.ptr b7 0 0∧T 8=.sl b8 0 g.au.length 1∧T 11=gi i
def O8 (g:an) (p q:List Bool) (b2 b7 b8:Nat) (u0 u1 u3:V) (o kl:List Int) (i:Nat) (T:Env) (H:View):Prop :=
  (∃ (u2:V) (bs:wV),bs.map (·.2)=((g.rules.filter (bz p q)).take i).map (bb (bf o)) ∧
    bc H ((.sl b7 0 1 4,4,[[u0,u1,u2,gi 0]]) :: (.sl b8 0 g.au.length 1,1,bN (dZ g.au.length o)) :: (u3,1,bN kl) ::
      (u1,1,ja (o.map fun x=>g.au.getD x.toNat ⟨#[]⟩)) :: (u0,3,g.ax.map cp) :: (u2,3,fM bs) :: (.sl b2 0 1 4,4,[[.emp 1,.emp 1,.emp 1,gi 0]]) :: kx bs)) ∧
  T 1=.aO (aw g) 0∧T 2=.ptr b2 0 0∧T 7=.ptr b7 0 0∧T 8=.sl b8 0 g.au.length 1∧T 10=u3∧T 13=gi i
def PA (g:an) (b2 b7 b8 b14 b15:Nat) (u3:V) (o:List Int) (r:aM) (L:List er) (i k:Nat) (T:Env) (H:View):Prop :=
  (∃ v:V,bc H ((.sl b15 0 1 3,3,[[gi (bf o r.left),v,gi r.prec]]) :: (v,1,bN ((bb (bf o) r).right.take k)) :: (.sl b14 0 1 3,3,[aU r]) :: L)) ∧
  T 1=.aO (aw g) 0∧T 2=.ptr b2 0 0∧T 7=.ptr b7 0 0∧T 8=.sl b8 0 g.au.length 1∧T 10=u3∧T 13=gi i∧T 14=.ptr b14 0 0∧T 15=.ptr b15 0 0∧T 16=gi k
theorem G8 {h:aB} {u0 u1 u2 u3:V} {x:an × List Int × Int} {b:wV} (h0:aW h.view u0 3 (x.1.ax.map cp)) (h1:aW h.view u1 1 (ja x.1.au)) (h2:aW h.view u2 3 (fM b)) (hb:∀ y∈kx b,aW h.view y.1 y.2.1 y.2.2)
    (hr:b.map (·.2)=x.1.rules) (h3:aW h.view u3 1 (bN x.2.1)):dA h (.bk [.agg [u0,u1,u2,gi x.1.start],u3,gi x.2.2]) (tX x):=by
  refine .bk _ _ rfl fun i hi=>?_
  match i,hi with
  | 0,_ =>
    refine .agg _ _ rfl fun j hj=>?_
    match j,hj with
    | 0,_=>exact KG h0
    | 1,_=>exact Lu h1
    | 2,_=>have:=I0 h2 hb; rw[hr] at this; exact this
    | 3,_=>exact .val _
    | n+4,hj=>exact absurd hj (by simp only[List.length_cons,List.length_nil]; omega)
  | 1,_=>exact qk h3
  | 2,_=>exact .val _
  | n+3,hi=>exact absurd hi (by simp only[List.length_cons,List.length_nil]; omega)
set_option maxHeartbeats 8000000 in
theorem Fh (g:an) (hg:g.Ok):dF Tryz.prog 70 [.agg (aw g)] (tX (eW g)):=by
  refine dF.of (e9 g) ?_
  refine aA.of mixed qx ?_
  simp (disch:=omega) only [↓wr,↓reduceIte,wq,ah,ag,aj,ab,ae,af,ai,isNil,Nat.reduceEqDiff,Nat.reduceAdd,Nat.reduceLT,Nat.reduceLeDiff,Int.reduceNeg,Int.reduceToNat,reduceCtorEq,lE,aw,encS]
  intro b2
  try simp (disch:=omega) only [↓wr,↓reduceIte,wq,ah,ag,aj,ab,ae,af,ai,isNil,Nat.reduceEqDiff,Nat.reduceAdd,Nat.reduceLT,Nat.reduceLeDiff,Int.reduceNeg,Int.reduceToNat,reduceCtorEq,aw,encS]
  refine aE.pure (th g hg) (by kernel_rfl) ?_
  repeat' (first | (refine av.dec (fun _=>?_) (fun _=>?_)) | (refine av.eq (fun _=>?_) (fun _=>?_)) | (refine av.ne (fun _=>?_) (fun _=>?_)) | (refine av.split (fun _=>?_) (fun _=>?_)) | (simp (disch:=omega) only [↓wr,↓reduceIte,wq,ah,ag,aj,ab,ae,af,ai,isNil,Nat.reduceEqDiff,Nat.reduceAdd,Nat.reduceLT,Nat.reduceLeDiff,Int.reduceNeg,Int.reduceToNat,reduceCtorEq,aw,encS,set_set]))
  · rename_i hr
    refine aE.pure (qW g hg) (by kernel_rfl) ?_
    simp (disch:=omega) only [↓wr,↓reduceIte,wq,ah,ag,aj,ab,ae,af,ai,isNil,Nat.reduceEqDiff,Nat.reduceAdd,Nat.reduceLT,Nat.reduceLeDiff,Int.reduceNeg,Int.reduceToNat,reduceCtorEq,aw,encS]
    refine aE.pure (Bj g hg).pure (by kernel_rfl) ?_
    have hf:=bI hr
    have h3:=hf.jo
    have h4:=hf.start
    have hpl:=iL hr true
    have hql:=nk hr
    have hred:=vM hr
    generalize aH g true=p at hpl hred
    generalize bB g=q at hql hred
    have hps:p[g.start.toNat]?=some (p[g.start.toNat]'(by omega)):=List.getElem?_eq_getElem (by omega)
    have hpd:p.getD g.start.toNat false=p[g.start.toNat]'(by omega):=by simp[List.getD_eq_getElem?_getD,hps]
    generalize p[g.start.toNat]'(by omega)=s at hps hpd
    rw[hpd] at hred
    simp (disch:=omega) only [↓wr,↓reduceIte,wq,ah,ag,aj,ab,ae,af,ai,isNil,Nat.reduceEqDiff,Nat.reduceAdd,Nat.reduceLT,Nat.reduceLeDiff,Int.reduceNeg,Int.reduceToNat,reduceCtorEq,aw,encS,bM,List.getElem?_map,hps]
    cases s with
    | false =>
      rw[if_neg (by simp)] at hred
      simp (disch:=omega) only [↓wr,↓reduceIte,wq,ah,ag,aj,ab,ae,af,ai,isNil,Nat.reduceEqDiff,Nat.reduceAdd,Nat.reduceLT,Nat.reduceLeDiff,Int.reduceNeg,Int.reduceToNat,reduceCtorEq,aw,encS,set_set]
      rintro h' hh
      rw[hred]
      exact uh
    | true =>
      rw[if_pos rfl] at hred
      simp (disch:=omega) only [↓wr,↓reduceIte,wq,ah,ag,aj,ab,ae,af,ai,isNil,Nat.reduceEqDiff,Nat.reduceAdd,Nat.reduceLT,Nat.reduceLeDiff,Int.reduceNeg,Int.reduceToNat,reduceCtorEq,aw,encS,set_set]
      have hN:=hf.au
      have hN1:=hf.q8
      have hT:=hf.ax
      have hR:=hf.rules
      refine dU (L:=[(.sl b2 0 1 4,4,[[.emp 1,.emp 1,.emp 1,gi 0]])]) (bc.emp (bc.nil.new rfl 4 _)) (by simp[cp,aP]) (by unfold aN; simp; omega) (by unfold aN; simp; omega) ?_
      intro u0 H1 ho1 _
      have c0:=ho1.head.cells
      have k0:=ho1.head.lT
      simp (disch:=omega) only [↓wr,↓reduceIte,wq,ah,ag,aj,ab,ae,af,ai,isNil,Nat.reduceEqDiff,Nat.reduceAdd,Nat.reduceLT,Nat.reduceLeDiff,Int.reduceNeg,Int.reduceToNat,reduceCtorEq,aw,encS,c0,k0]
      intro b7 hb7
      have ho2:=ho1.new hb7 4 [[u0,.emp 1,.emp 1,gi 0]]
      try simp (disch:=omega) only [↓wr,↓reduceIte,wq,ah,ag,aj,ab,ae,af,ai,isNil,Nat.reduceEqDiff,Nat.reduceAdd,Nat.reduceLT,Nat.reduceLeDiff,Int.reduceNeg,Int.reduceToNat,reduceCtorEq,aw,encS,c0,k0,set_set]
      refine ⟨⟨by omega,by unfold aN; omega,by unfold aN; omega⟩,fun h=>by omega,?_⟩
      intro _ b8 hb8
      have hb87:=(cF hb8 cy).1
      have ho3:=ho2.new (n:=b8) (by simp only[View.set,if_neg hb87]; exact (cF (cF hb8 cy).2 cy).2) 1 (bN (List.replicate g.au.length 0))
      try simp (disch:=omega) only [↓wr,↓reduceIte,wq,ah,ag,aj,ab,ae,af,ai,isNil,Nat.reduceEqDiff,Nat.reduceAdd,Nat.reduceLT,Nat.reduceLeDiff,Int.reduceNeg,Int.reduceToNat,reduceCtorEq,aw,encS,c0,k0,set_set]
      refine bw.up g.au.length (fun i T H=>(∃ l:List Int,l.length=g.au.length∧l.take i=List.replicate i (-1) ∧
        bc H [(.sl b8 0 g.au.length 1,1,bN l),(.sl b7 0 1 4,4,[[u0,.emp 1,.emp 1,gi 0]]),(u0,3,g.ax.map cp),(.sl b2 0 1 4,4,[[.emp 1,.emp 1,.emp 1,gi 0]])]) ∧
        T 1=.aO (aw g) 0∧T 2=.ptr b2 0 0∧T 5=bM p∧T 6=bM q∧T 7=.ptr b7 0 0∧T 8=.sl b8 0 g.au.length 1∧T 9=gi i) ?_ ?_
      · exact ⟨⟨List.replicate g.au.length 0,by simp,by simp,by simpa [set_set] using ho3⟩,rfl,rfl,rfl,rfl,rfl,rfl,rfl⟩
      rintro i k T H2 hk ⟨⟨l,hl1,hl2,ho⟩,t1,t2,t5,t6,t7,t8,t9⟩
      simp (disch:=omega) only [↓wr,↓reduceIte,wq,ah,ag,aj,ab,ae,af,ai,isNil,Nat.reduceEqDiff,Nat.reduceAdd,Nat.reduceLT,Nat.reduceLeDiff,Int.reduceNeg,Int.reduceToNat,reduceCtorEq,kj,t1,t2,t5,t6,t7,t8,t9]
      refine av.dec (fun hc=>?_) (fun hc=>?_)
      · have hne:bN l≠[]:=by intro e; rw[List.map_eq_nil_iff] at e; rw[e] at hl1; simp at hl1; omega
        have hb:=(ho.obj hne).1
        have hbg:=jf (show i < l.length by omega)
        simp (disch:=omega) only [↓wr,↓reduceIte,wq,ah,ag,aj,ab,ae,af,ai,isNil,Nat.reduceEqDiff,Nat.reduceAdd,Nat.reduceLT,Nat.reduceLeDiff,Int.reduceNeg,Int.reduceToNat,reduceCtorEq,t1,t2,t5,t6,t7,t8,t9,hb,hbg,List.length_map]
        refine ⟨by omega,by omega,?_⟩
        refine bt hk (by omega) ⟨⟨l.set i (-1),by simp[hl1],?_,?_⟩,t1,t2,t5,t6,t7,t8,rfl⟩
        · rw[ur (by omega),hl2,List.replicate_succ']
        · rw[ints_set]
          exact ho.put (by simp) (by simp[hl1])
      · rw[List.take_of_length_le (by omega)] at hl2
        rw[hl2] at ho
        have ei:i=g.au.length:=by omega
        subst ei
        simp (disch:=omega) only [↓wr,↓reduceIte,wq,ah,ag,aj,ab,ae,af,ai,isNil,Nat.reduceEqDiff,Nat.reduceAdd,Nat.reduceLT,Nat.reduceLeDiff,Int.reduceNeg,Int.reduceToNat,reduceCtorEq,t1,t2,t5,t6,t7,t8,t9]
        have name_in:∀ o:List Int,(o.map fun x=>g.au.getD x.toNat ⟨#[]⟩).length=o.length:=fun o=>by simp
        refine bw.up g.rules.length (NZ g p q b2 b7 b8 u0) ?_ ?_
        · refine ⟨⟨.emp 1,.emp 1,rfl,by simp[bK],by simp[bK],by simp[bK],?_⟩,t1,t2,t5,t6,t7,t8,rfl⟩
          have h4:=((((ho.emp (k:=1) (sz:=1)).emp (k:=1) (sz:=1)).at 3 (by simp)).perm (Ho.symm.cons _))
          have e0:bK p q (g.rules.take 0)=[]:=rfl
          rw[e0,MP]
          exact h4
        clear ho t1 t2 t5 t6 t7 t8 t9 hl1 hl2
        rintro i k T H2 hk ⟨⟨u1,u3,t10,hin,hnd,holen,ho⟩,t1,t2,t5,t6,t7,t8,t11⟩
        simp (disch:=omega) only [↓wr,↓reduceIte,wq,ah,ag,aj,ab,ae,af,ai,isNil,Nat.reduceEqDiff,Nat.reduceAdd,Nat.reduceLT,Nat.reduceLeDiff,Int.reduceNeg,Int.reduceToNat,reduceCtorEq,km,t1,t2,t5,t6,t7,t8,t10,t11,aw]
        refine av.dec (fun hc=>?_) (fun hc=>?_)
        · have hg2:g.rules[i]?=some (g.rules[i]'(by omega)):=List.getElem?_eq_getElem (by omega)
          have hmem:g.rules[i]'(by omega)∈g.rules:=List.getElem_mem _
          have htk:g.rules.take (i+1)=g.rules.take i ++ [g.rules[i]'(by omega)]:=by rw[List.take_add_one,hg2]; rfl
          generalize g.rules[i]'(by omega)=r at hg2 hmem htk
          obtain ⟨hl1,hl2,hl3,hr6,hsy⟩:=hf.sN hg hmem
          have hqs:q[r.left.toNat]?=some (q[r.left.toNat]'(by omega)):=List.getElem?_eq_getElem (by omega)
          have hqd:q.getD r.left.toNat false=q[r.left.toNat]'(by omega):=by simp[List.getD_eq_getElem?_getD,hqs]
          generalize q[r.left.toNat]'(by omega)=qs at hqs hqd
          simp (disch:=omega) only [↓wr,↓reduceIte,wq,ah,ag,aj,ab,ae,af,ai,isNil,Nat.reduceEqDiff,Nat.reduceAdd,Nat.reduceLT,Nat.reduceLeDiff,Int.reduceNeg,Int.reduceToNat,reduceCtorEq,t1,t2,t5,t6,t7,t8,t10,t11,aw,aU,List.getElem?_map,hg2]
          intro b12 hb12
          have hoA:=ho.new hb12 3 [aU r]
          try simp (disch:=omega) only [↓wr,↓reduceIte,wq,ah,ag,aj,ab,ae,af,ai,isNil,Nat.reduceEqDiff,Nat.reduceAdd,Nat.reduceLT,Nat.reduceLeDiff,Int.reduceNeg,Int.reduceToNat,reduceCtorEq,t1,t2,t5,t6,t7,t8,t10,t11,aU,encI,bM,List.getElem?_map,hqs,set_set]
          have hskip:∀ (T2:Env) (H':View),bz p q r=false→H'=H2.set b12 (.arr 3 [aU r])→T2 10=u3→T2 1=.aO (aw g) 0→T2 2=.ptr b2 0 0→T2 5=bM p→T2 6=bM q→T2 7=.ptr b7 0 0→T2 8=.sl b8 0 g.au.length 1→T2 11=gi ((i:Int)+1) →
              ∃ k',k' < k∧Dj g.rules.length k' (NZ g p q b2 b7 b8 u0) T2 H':=by
            intro T2 H' hkr hH' a10 a1 a2 a5 a6 a7 a8 a11
            have e1:bK p q (g.rules.take (i+1))=bK p q (g.rules.take i):=by rw[htk,rf,if_neg (by simp[hkr])]
            have e2:b6 p q (g.rules.take (i+1)) 0=b6 p q (g.rules.take i) 0:=by rw[htk,jD]; simp[b6,hkr]
            refine bt hk (by omega) ⟨⟨u1,u3,a10,by rw[e1]; exact hin,by rw[e1]; exact hnd,by rw[e1]; omega,by rw[e1,e2,hH']; exact hoA.tail⟩,a1,a2,a5,a6,a7,a8,by rw[a11]; rfl⟩
          cases qs with
          | false =>
            simp (disch:=omega) only [↓wr,↓reduceIte,wq,ah,ag,aj,ab,ae,af,ai,isNil,Nat.reduceEqDiff,Nat.reduceAdd,Nat.reduceLT,Nat.reduceLeDiff,Int.reduceNeg,Int.reduceToNat,reduceCtorEq,t1,t2,t5,t6,t7,t8,t10,t11]
            refine hskip _ _ (by rw[bz,hqd]; rfl) ?_ ?_ ?_ ?_ ?_ ?_ ?_ ?_ ?_
            all_goals first | exact t10 | exact t1 | exact t2 | exact t5 | exact t6 | exact t7 | exact t8 | rfl | (rw[set_set]; rfl)
          | true =>
            simp (disch:=omega) only [↓wr,↓reduceIte,wq,ah,ag,aj,ab,ae,af,ai,isNil,Nat.reduceEqDiff,Nat.reduceAdd,Nat.reduceLT,Nat.reduceLeDiff,Int.reduceNeg,Int.reduceToNat,reduceCtorEq,t1,t2,t5,t6,t7,t8,t10,t11,aU,encI,bM]
            refine aE.pure (DS r.right p true (hg.aG r hmem).2.2.1 (fun s hs=>⟨(hsy s hs).1,fun h=>by rw[hpl]; exact (hsy s hs).2 h⟩)) (by kernel_rfl) ?_
            simp (disch:=omega) only [↓wr,↓reduceIte,wq,ah,ag,aj,ab,ae,af,ai,isNil,Nat.reduceEqDiff,Nat.reduceAdd,Nat.reduceLT,Nat.reduceLeDiff,Int.reduceNeg,Int.reduceToNat,reduceCtorEq,t1,t2,t5,t6,t7,t8,t10,t11]
            refine av.split (fun hal=>?_) (fun hal=>?_)
            · simp (disch:=omega) only [↓wr,↓reduceIte,wq,ah,ag,aj,ab,ae,af,ai,isNil,Nat.reduceEqDiff,Nat.reduceAdd,Nat.reduceLT,Nat.reduceLeDiff,Int.reduceNeg,Int.reduceToNat,reduceCtorEq,t1,t2,t5,t6,t7,t8,t10,t11]
              have hkr:bz p q r=true:=by rw[bz,hqd,hal]; rfl
              intro m hm
              try simp (disch:=omega) only [↓wr,↓reduceIte,wq,ah,ag,aj,ab,ae,af,ai,isNil,Nat.reduceEqDiff,Nat.reduceAdd,Nat.reduceLT,Nat.reduceLeDiff,Int.reduceNeg,Int.reduceToNat,reduceCtorEq,t1,t2,t5,t6,t7,t8,t10,t11,dp]
              have hm12:=(cF hm cy).1
              have hm:=(cF (cF hm cy).2 cy).2
              have hoB:=(hoA.fresh (n:=m) (o:=.arr 1 [[gi i]]) (by simp only[View.set,if_neg hm12]; exact hm)).at 3 (by simp)
              have hkl:(b6 p q (g.rules.take i) 0).length≤40:=by
                rw[jd]
                have h1:=List.length_filter_le (bz p q) (g.rules.take i)
                have h2:(g.rules.take i).length≤i:=List.length_take_le _ _
                have:=hf.rules
                omega
              refine dU (by rw[set_set]; exact hoB) (by simp[aP]) (by unfold aN; simp at hkl ⊢; omega) (by unfold aN; simp at hkl ⊢; omega) ?_
              intro u3' H3 ho3 _
              have f12:=((ho3.at 1 (by simp)).obj (by simp)).1
              have f7:=((ho3.at 2 (by simp)).obj (by simp)).1
              have f8:=((ho3.at 3 (by simp)).obj (MQ (by simp[dZ]; omega))).1
              have hu1:cT u1=some (ja ((bK p q (g.rules.take i)).map fun x=>g.au.getD x.toNat ⟨#[]⟩)).length:=(ho3.at 4 (by simp)).head.len
              have hbg:=jf (l:=dZ g.au.length (bK p q (g.rules.take i))) (i:=r.left.toNat) (by simp[dZ]; omega)
              rw[xf hl2 hl3] at hbg
              simp only[aU,encI] at f12
              simp (disch:=omega) only [↓wr,↓reduceIte,wq,ah,ag,aj,ab,ae,af,ai,isNil,Nat.reduceEqDiff,Nat.reduceAdd,Nat.reduceLT,Nat.reduceLeDiff,Int.reduceNeg,Int.reduceToNat,reduceCtorEq,t1,t2,t5,t6,t7,t8,t11,f12,f7,f8,hbg]
              refine ⟨by omega,by simp[dZ]; omega,?_⟩
              have e2:b6 p q (g.rules.take (i+1)) 0=b6 p q (g.rules.take i) 0 ++ [(i:Int)]:=by
                rw[htk,jD]; simp[b6,hkr,show i≤g.rules.length by omega]
              have e1:bK p q (g.rules.take (i+1))=dd (bK p q (g.rules.take i)) r:=by rw[htk,rf,if_pos hkr]
              generalize bK p q (g.rules.take i)=o at *
              generalize b6 p q (g.rules.take i) 0=kl at *
              refine av.dec (fun hlt=>?_) (fun hlt=>?_)
              · have hx:r.left ∉ o:=qb.1 hlt
                have e1':dd o r=o ++ [r.left]:=by rw[dd,if_neg hx]
                have hne78:b7≠b8:=ho3.Jf 2 3 rfl rfl (by omega)
                have hne12:b12≠b8:=ho3.Jf 1 3 rfl rfl (by omega)
                have hgn:g.au[r.left.toNat]?=some (g.au[r.left.toNat]'(by omega)):=List.getElem?_eq_getElem (by omega)
                have hgnd:g.au.getD r.left.toNat ⟨#[]⟩=g.au[r.left.toNat]'(by omega):=by simp[List.getD_eq_getElem?_getD,hgn]
                generalize g.au[r.left.toNat]'(by omega)=nm at hgn hgnd
                simp (disch:=omega) only [↓wr,↓reduceIte,wq,ah,ag,aj,ab,ae,af,ai,isNil,Nat.reduceEqDiff,Nat.reduceAdd,Nat.reduceLT,Nat.reduceLeDiff,Int.reduceNeg,Int.reduceToNat,reduceCtorEq,t1,t2,t5,t6,t7,t8,t11,f12,f7,f8,hbg,hu1,List.length_map]
                try refine ⟨by omega,by simp[dZ]; omega,?_⟩
                try simp (disch:=omega) only [↓wr,↓reduceIte,wq,ah,ag,aj,ab,ae,af,ai,isNil,Nat.reduceEqDiff,Nat.reduceAdd,Nat.reduceLT,Nat.reduceLeDiff,Int.reduceNeg,Int.reduceToNat,reduceCtorEq,t1,t2,t5,t6,t7,t8,t11,f12,f7,f8,hbg,hu1,List.length_map,hne78,hne12,aw,encS,List.getElem?_map,hgn]
                intro m2 hm2
                have hm28:=(cF hm2 cy).1
                have hm2:=(cF hm2 cy).2
                have hes:(bN (dZ g.au.length o)).set r.left.toNat [gi o.length]=bN (dZ g.au.length (o ++ [r.left])):=by rw[ints_set,M3 hl2 hl3 hx]
                have ho4:=(ho3.at 3 (by simp)).put (es':=(bN (dZ g.au.length o)).set r.left.toNat [gi o.length]) (by simp) (by simp[dZ])
                have ho5:=(ho4.fresh (n:=m2) (o:=.arr 1 [[gs nm]]) (by simp only[View.set,if_neg hm28]; exact hm2)).at 4 (by simp)
                have hN16:o.length≤40:=by omega
                try simp (disch:=omega) only [↓wr,↓reduceIte,wq,ah,ag,aj,ab,ae,af,ai,isNil,Nat.reduceEqDiff,Nat.reduceAdd,Nat.reduceLT,Nat.reduceLeDiff,Int.reduceNeg,Int.reduceToNat,reduceCtorEq,t1,t2,t5,t6,t7,t8,t11,f12,f7,f8,hbg,hu1,List.length_map,hne78,hne12,dp]
                refine dU ho5 (by simp[aP]) (by unfold aN; simp; omega) (by unfold aN; simp; omega) ?_
                intro u1' H5 ho6 _
                have c1:=ho6.head.cells
                have k1:=ho6.head.lT
                have f7':=((ho6.at 4 (by simp)).obj (by simp)).1
                simp (disch:=omega) only [↓wr,↓reduceIte,wq,ah,ag,aj,ab,ae,af,ai,isNil,Nat.reduceEqDiff,Nat.reduceAdd,Nat.reduceLT,Nat.reduceLeDiff,Int.reduceNeg,Int.reduceToNat,reduceCtorEq,t1,t2,t5,t6,t7,t8,t11,f7',c1,k1]
                have ho7:=(ho6.at 4 (by simp)).put (es':=[[u0,u1',.emp 1,gi 0]]) rfl rfl
                have ho8:=(((ho7.at 4 (by simp)).tail).perm (Ho.cons _))
                refine bt hk (by omega) ⟨⟨u1',u3',rfl,?_,?_,?_,?_⟩,t1,t2,t5,t6,t7,t8,rfl⟩
                · rw[e1,e1']; intro x hx'; rcases List.mem_append.1 hx' with h | h
                  · exact hin x h
                  · simp at h; subst h; exact ⟨hl2,hl3⟩
                · rw[e1]; exact Iw hnd
                · rw[e1,e1']; simp; omega
                · rw[e1,e1',e2]
                  have:=ho8
                  rw[hes] at this
                  simp only[List.map_append,List.map_cons,List.map_nil,hgnd]
                  exact this
              · have hx:r.left∈o:=by
                  refine Classical.byContradiction fun h=>?_
                  have:=qb.2 h
                  omega
                have e1':dd o r=o:=by rw[dd,if_pos hx]
                simp (disch:=omega) only [↓wr,↓reduceIte,wq,ah,ag,aj,ab,ae,af,ai,isNil,Nat.reduceEqDiff,Nat.reduceAdd,Nat.reduceLT,Nat.reduceLeDiff,Int.reduceNeg,Int.reduceToNat,reduceCtorEq,t1,t2,t5,t6,t7,t8,t11]
                have ho4:=(((ho3.at 1 (by simp)).tail).perm Ho)
                refine bt hk (by omega) ⟨⟨u1,u3',rfl,?_,?_,?_,?_⟩,t1,t2,t5,t6,t7,t8,rfl⟩
                · rw[e1,e1']; exact hin
                · rw[e1,e1']; exact hnd
                · rw[e1,e1']; omega
                · rw[e1,e1',e2]
                  simp only[List.map_append,List.map_cons,List.map_nil]
                  exact ho4
            · simp (disch:=omega) only [↓wr,↓reduceIte,wq,ah,ag,aj,ab,ae,af,ai,isNil,Nat.reduceEqDiff,Nat.reduceAdd,Nat.reduceLT,Nat.reduceLeDiff,Int.reduceNeg,Int.reduceToNat,reduceCtorEq,t1,t2,t5,t6,t7,t8,t10,t11]
              refine hskip _ _ (by rw[bz,hqd,hal]; rfl) ?_ ?_ ?_ ?_ ?_ ?_ ?_ ?_ ?_
              all_goals first | exact t10 | exact t1 | exact t2 | exact t5 | exact t6 | exact t7 | exact t8 | rfl | (rw[set_set]; rfl)
        · rw[List.take_of_length_le (by omega)] at ho hin hnd holen
          have hkl40:(b6 p q g.rules 0).length≤40:=by
            rw[jd]; have h1:=List.length_filter_le (bz p q) g.rules; omega
          have hkg:=qB p q g.rules 0
          have hkln:=jd p q g.rules 0
          have hstin:g.start.toNat < (dZ g.au.length (bK p q g.rules)).length:=by simp[dZ]; omega
          have hstb:=jf hstin
          rw[xf h3 h4] at hstb
          have hrg:j7 g (bf (bK p q g.rules)) p q=⟨g.ax,(bK p q g.rules).map fun x=>g.au.getD x.toNat ⟨#[]⟩,(g.rules.filter (bz p q)).map (bb (bf (bK p q g.rules))),bf (bK p q g.rules) g.start⟩:=rfl
          rw[hrg] at hred
          clear hrg
          generalize bK p q g.rules=o at *
          generalize b6 p q g.rules 0=kl at *
          simp (disch:=omega) only [↓wr,↓reduceIte,wq,ah,ag,aj,ab,ae,af,ai,isNil,Nat.reduceEqDiff,Nat.reduceAdd,Nat.reduceLT,Nat.reduceLeDiff,Int.reduceNeg,Int.reduceToNat,reduceCtorEq,t1,t2,t5,t6,t7,t8,t10,t11]
          refine bw.up kl.length (O8 g p q b2 b7 b8 u0 u1 u3 o kl) ?_ ?_
          · refine ⟨⟨.emp 1,[],by simp,?_⟩,t1,t2,t7,t8,t10,rfl⟩
            exact (ho.emp (k:=1) (sz:=3)).perm (pF [(.sl b7 0 1 4,4,[[u0,u1,.emp 1,gi 0]]),(.sl b8 0 g.au.length 1,1,bN (dZ g.au.length o)),(u3,1,bN kl),(u1,1,ja (o.map fun x=>g.au.getD x.toNat ⟨#[]⟩)),(u0,3,g.ax.map cp),(.emp 1,3,[]),(.sl b2 0 1 4,4,[[.emp 1,.emp 1,.emp 1,gi 0]])] 5 (by simp)).symm
          clear ho t1 t2 t5 t6 t7 t8 t10 t11
          rintro i k T H2 hk ⟨⟨u2,bs,hbs,ho⟩,t1,t2,t7,t8,t10,t13⟩
          have hu3:cT u3=some (bN kl).length:=(ho.own 2 rfl).len
          simp (disch:=omega) only [↓wr,↓reduceIte,wq,ah,ag,aj,ab,ae,af,ai,isNil,Nat.reduceEqDiff,Nat.reduceAdd,Nat.reduceLT,Nat.reduceLeDiff,Int.reduceNeg,Int.reduceToNat,reduceCtorEq,kf,t1,t2,t7,t8,t10,t13,hu3,List.length_map]
          refine av.dec (fun hc=>?_) (fun hc=>?_)
          · obtain ⟨n3,e3,hn3⟩:=(ho.own 2 rfl).sl (by simp; omega)
            rw[List.length_map] at e3
            subst e3
            obtain ⟨m,hm1,hm2,hm3⟩:=hkg i (by omega)
            have hbg:=jf (show i < kl.length by omega)
            rw[Int.zero_add] at hm1
            have hki:kl[i]'(by omega)=(m:Int):=by
              rw[List.getElem?_eq_getElem (show i < kl.length by omega)] at hm1; simpa using hm1
            rw[hki] at hbg
            have hg2:g.rules[m]?=some (g.rules[m]'hm3):=List.getElem?_eq_getElem hm3
            have hmem:g.rules[m]'hm3∈g.rules:=List.getElem_mem _
            have htk:(g.rules.filter (bz p q)).take (i+1)=(g.rules.filter (bz p q)).take i ++ [g.rules[m]'hm3]:=by
              rw[List.take_add_one,← hm2,hg2]; rfl
            generalize g.rules[m]'hm3=r at hg2 hmem htk
            obtain ⟨hl1,hl2,hl3,hr6,hsy⟩:=hf.sN hg hmem
            simp (disch:=omega) only [↓wr,↓reduceIte,wq,ah,ag,aj,ab,ae,af,ai,isNil,Nat.reduceEqDiff,Nat.reduceAdd,Nat.reduceLT,Nat.reduceLeDiff,Int.reduceNeg,Int.reduceToNat,reduceCtorEq,t1,t2,t7,t8,t10,t13,hn3,hbg,List.length_map,aw,aU,List.getElem?_map,hg2]
            refine ⟨by omega,by omega,?_⟩
            intro b14 hb14
            have hoA:=ho.new hb14 3 [aU r]
            have f8:=hoA.is 2 rfl (by simp[dZ]; omega)
            have hbg2:=jf (l:=dZ g.au.length o) (i:=r.left.toNat) (by simp[dZ]; omega)
            rw[xf hl2 hl3] at hbg2
            have hn814:b8≠b14:=hoA.Jf 2 0 rfl rfl (by omega)
            have g8:H2 b8=.arr 1 (bN (dZ g.au.length o)):=ho.is 1 rfl (by simp[dZ]; omega)
            try simp (disch:=omega) only [↓wr,↓reduceIte,wq,ah,ag,aj,ab,ae,af,ai,isNil,Nat.reduceEqDiff,Nat.reduceAdd,Nat.reduceLT,Nat.reduceLeDiff,Int.reduceNeg,Int.reduceToNat,reduceCtorEq,t1,t2,t7,t8,t10,t13,g8,hn814,hbg2,List.length_map,set_set,encI]
            refine ⟨by omega,by simp[dZ]; omega,?_⟩
            intro b15 hb15
            have hbne:=(cF hb15 cy).1
            have hb15:=(cF (cF hb15 cy).2 cy).2
            have hoB:=(((hoA.new (n:=b15) (by simp only[View.set,if_neg hbne]; exact hb15) 3 [[gi (bf o r.left),.emp 1,gi r.prec]]).emp (k:=1) (sz:=1)).perm (.swap _ _ _))
            generalize hL:((V.sl b7 0 1 4,4,[[u0,u1,u2,gi 0]]) :: (V.sl b8 0 g.au.length 1,1,bN (dZ g.au.length o)) :: (V.sl n3 0 kl.length 1,1,bN kl) ::
              (u1,1,ja (o.map fun x=>g.au.getD x.toNat ⟨#[]⟩)) :: (u0,3,g.ax.map cp) :: (u2,3,fM bs) :: (V.sl b2 0 1 4,4,[[V.emp 1,V.emp 1,V.emp 1,gi 0]]) :: kx bs:List er)=L at hoB
            have hL1:L[1]?=some (.sl b8 0 g.au.length 1,1,bN (dZ g.au.length o)):=by rw[← hL]; rfl
            try simp (disch:=omega) only [↓wr,↓reduceIte,wq,ah,ag,aj,ab,ae,af,ai,isNil,Nat.reduceEqDiff,Nat.reduceAdd,Nat.reduceLT,Nat.reduceLeDiff,Int.reduceNeg,Int.reduceToNat,reduceCtorEq,t1,t2,t7,t8,t10,t13,set_set]
            refine bw.up r.right.length (PA g b2 b7 b8 b14 b15 (.sl n3 0 kl.length 1) o r L i) ?_ ?_
            · exact ⟨⟨.emp 1,by rw[set_set,set_set]; exact hoB⟩,t1,t2,t7,t8,t10,t13,rfl,rfl,rfl⟩
            clear hoA hoB f8 g8 hb14 hb15 t1 t2 t7 t8 t10 t13
            rintro k k2 T H3 hk2 ⟨⟨v,hoC⟩,t1,t2,t7,t8,t10,t13,t14,t15,t16⟩
            have f14:=hoC.is 2 rfl (by simp)
            have f15:=hoC.is 0 rfl (by simp)
            have f8:H3 b8=.arr 1 (bN (dZ g.au.length o)):=hoC.is 4 (by simpa using hL1) (by simp[dZ]; omega)
            simp only[aU] at f14
            simp (disch:=omega) only [↓wr,↓reduceIte,wq,ah,ag,aj,ab,ae,af,ai,isNil,Nat.reduceEqDiff,Nat.reduceAdd,Nat.reduceLT,Nat.reduceLeDiff,Int.reduceNeg,Int.reduceToNat,reduceCtorEq,kg,t1,t2,t7,t8,t10,t13,t14,t15,t16,f14,encI]
            refine av.dec (fun hcc=>?_) (fun hcc=>?_)
            · have hgs:r.right[k]?=some (r.right[k]'(by omega)):=List.getElem?_eq_getElem (by omega)
              have hms:r.right[k]'(by omega)∈r.right:=List.getElem_mem _
              have hts:(bb (bf o) r).right.take (k+1)=(bb (bf o) r).right.take k ++ [if r.right[k]'(by omega) < 0 then -1 - bf o (-1 - r.right[k]'(by omega)) else r.right[k]'(by omega)]:=by
                rw[List.take_add_one]; simp[bb,hgs]
              have hlk:((bb (bf o) r).right.take k).length≤6:=by
                have h1:(bb (bf o) r).right.length=r.right.length:=by simp[bb]
                have h2:((bb (bf o) r).right.take k).length≤(bb (bf o) r).right.length:=by rw[List.length_take]; omega
                omega
              generalize r.right[k]'(by omega)=s at hgs hms hts
              obtain ⟨⟨s1,s2⟩,s3⟩:=hsy s hms
              simp (disch:=omega) only [↓wr,↓reduceIte,wq,ah,ag,aj,ab,ae,af,ai,isNil,Nat.reduceEqDiff,Nat.reduceAdd,Nat.reduceLT,Nat.reduceLeDiff,Int.reduceNeg,Int.reduceToNat,reduceCtorEq,t1,t2,t7,t8,t10,t13,t14,t15,t16,f14,encI,List.getElem?_map,hgs]
              have hbd:=Bb o (-1 - s)
              have hob:o.length≤40:=by omega
              refine av.dec (fun hneg=>?_) (fun hneg=>?_)
              · rw[if_pos hneg] at hts
                have hin1:=s3 hneg
                have hbg3:=jf (l:=dZ g.au.length o) (i:=(-1 - s).toNat) (by simp[dZ]; omega)
                rw[xf (by omega) hin1] at hbg3
                simp (disch:=omega) only [↓wr,↓reduceIte,wq,ah,ag,aj,ab,ae,af,ai,isNil,Nat.reduceEqDiff,Nat.reduceAdd,Nat.reduceLT,Nat.reduceLeDiff,Int.reduceNeg,Int.reduceToNat,reduceCtorEq,t1,t2,t7,t8,t10,t13,t14,t15,t16,f14,f15,f8,hbg3,List.length_map]
                refine ⟨by omega,by simp[dZ]; omega,?_⟩
                intro m hm
                try simp (disch:=omega) only [↓wr,↓reduceIte,wq,ah,ag,aj,ab,ae,af,ai,isNil,Nat.reduceEqDiff,Nat.reduceAdd,Nat.reduceLT,Nat.reduceLeDiff,Int.reduceNeg,Int.reduceToNat,reduceCtorEq,t1,t2,t7,t8,t10,t13,t14,t15,t16,dp]
                have hoD:=(hoC.fresh (o:=.arr 1 [[gi (-1 - bf o (-1 - s))]]) hm).at 1 (by simp)
                refine dU hoD (by simp[aP]) (by unfold aN; simp at hlk ⊢; omega) (by unfold aN; simp at hlk ⊢; omega) ?_
                intro v' H4 hoE _
                have cv:=hoE.head.cells
                have kv:=hoE.head.lT
                have f15':=hoE.is 1 rfl (by simp)
                simp (disch:=omega) only [↓wr,↓reduceIte,wq,ah,ag,aj,ab,ae,af,ai,isNil,Nat.reduceEqDiff,Nat.reduceAdd,Nat.reduceLT,Nat.reduceLeDiff,Int.reduceNeg,Int.reduceToNat,reduceCtorEq,t1,t2,t7,t8,t10,t13,t14,t15,t16,f15',cv,kv]
                have hoF:=(hoE.at 1 (by simp)).put (es':=[[gi (bf o r.left),v',gi r.prec]]) rfl rfl
                refine bt hk2 (by omega) ⟨⟨v',?_⟩,t1,t2,t7,t8,t10,t13,t14,t15,rfl⟩
                rw[hts]
                simp only[List.map_append,List.map_cons,List.map_nil]
                exact hoF
              · rw[if_neg hneg] at hts
                simp (disch:=omega) only [↓wr,↓reduceIte,wq,ah,ag,aj,ab,ae,af,ai,isNil,Nat.reduceEqDiff,Nat.reduceAdd,Nat.reduceLT,Nat.reduceLeDiff,Int.reduceNeg,Int.reduceToNat,reduceCtorEq,t1,t2,t7,t8,t10,t13,t14,t15,t16,f14,f15,f8]
                intro m hm
                try simp (disch:=omega) only [↓wr,↓reduceIte,wq,ah,ag,aj,ab,ae,af,ai,isNil,Nat.reduceEqDiff,Nat.reduceAdd,Nat.reduceLT,Nat.reduceLeDiff,Int.reduceNeg,Int.reduceToNat,reduceCtorEq,t1,t2,t7,t8,t10,t13,t14,t15,t16,dp]
                have hoD:=(hoC.fresh (o:=.arr 1 [[gi s]]) hm).at 1 (by simp)
                refine dU hoD (by simp[aP]) (by unfold aN; simp at hlk ⊢; omega) (by unfold aN; simp at hlk ⊢; omega) ?_
                intro v' H4 hoE _
                have cv:=hoE.head.cells
                have kv:=hoE.head.lT
                have f15':=hoE.is 1 rfl (by simp)
                simp (disch:=omega) only [↓wr,↓reduceIte,wq,ah,ag,aj,ab,ae,af,ai,isNil,Nat.reduceEqDiff,Nat.reduceAdd,Nat.reduceLT,Nat.reduceLeDiff,Int.reduceNeg,Int.reduceToNat,reduceCtorEq,t1,t2,t7,t8,t10,t13,t14,t15,t16,f15',cv,kv]
                have hoF:=(hoE.at 1 (by simp)).put (es':=[[gi (bf o r.left),v',gi r.prec]]) rfl rfl
                refine bt hk2 (by omega) ⟨⟨v',?_⟩,t1,t2,t7,t8,t10,t13,t14,t15,rfl⟩
                rw[hts]
                simp only[List.map_append,List.map_cons,List.map_nil]
                exact hoF
            · rw[List.take_of_length_le (by simp[bb]; omega)] at hoC
              subst hL
              have f7:=hoC.is 3 rfl (by simp)
              have cv:=(hoC.own 1 rfl).cells
              have kv:=(hoC.own 1 rfl).lT
              have hbl:(fM bs).length≤40:=by
                have h1:=congrArg List.length hbs
                simp only[List.length_map,List.length_take] at h1
                simp only[fM,List.length_map]
                omega
              simp (disch:=omega) only [↓wr,↓reduceIte,wq,ah,ag,aj,ab,ae,af,ai,isNil,Nat.reduceEqDiff,Nat.reduceAdd,Nat.reduceLT,Nat.reduceLeDiff,Int.reduceNeg,Int.reduceToNat,reduceCtorEq,t1,t2,t7,t8,t10,t13,t14,t15,t16,f7,f15,cv,kv]
              intro m hm
              try simp (disch:=omega) only [↓wr,↓reduceIte,wq,ah,ag,aj,ab,ae,af,ai,isNil,Nat.reduceEqDiff,Nat.reduceAdd,Nat.reduceLT,Nat.reduceLeDiff,Int.reduceNeg,Int.reduceToNat,reduceCtorEq,t1,t2,t7,t8,t10,t13,t14,t15,t16,dp]
              have hoD:=(hoC.fresh (o:=.arr 3 [[gi (bf o r.left),v,gi r.prec]]) hm).at 8 (by simp)
              refine dU hoD (by simp[xh,kv]) (by unfold aN; simp at hbl ⊢; omega) (by unfold aN; simp at hbl ⊢; omega) ?_
              intro u2' H4 hoE _
              have cu:=hoE.head.cells
              have ku:=hoE.head.lT
              have f7':=hoE.is 4 rfl (by simp)
              simp (disch:=omega) only [↓wr,↓reduceIte,wq,ah,ag,aj,ab,ae,af,ai,isNil,Nat.reduceEqDiff,Nat.reduceAdd,Nat.reduceLT,Nat.reduceLeDiff,Int.reduceNeg,Int.reduceToNat,reduceCtorEq,t1,t2,t7,t8,t10,t13,t14,t15,t16,f7',cu,ku]
              have hoF:=(hoE.at 4 (by simp)).put (es':=[[u0,u1,u2',gi 0]]) rfl rfl
              have hoG:=((((hoF.at 2 (by simp)).tail).at 3 (by simp)).tail)
              refine bt hk (by omega) ⟨⟨u2',bs ++ [(v,bb (bf o) r)],?_,?_⟩,t1,t2,t7,t8,t10,rfl⟩
              · rw[List.map_append,hbs,htk,List.map_append]; rfl
              · refine hoG.perm (.cons _ ?_)
                simp only[kx,fM,List.map_append,List.map_cons,List.map_nil]
                refine .trans ?_ (pF _ 4 (by simp)).symm
                refine .cons _ ?_
                exact (List.perm_append_singleton (v,1,bN (bb (bf o) r).right) ((.sl b8 0 g.au.length 1,1,bN (dZ g.au.length o)) :: (.sl n3 0 kl.length 1,1,bN kl) :: (u1,1,ja (o.map fun x=>g.au.getD x.toNat ⟨#[]⟩)) :: (u0,3,g.ax.map cp) :: (.sl b2 0 1 4,4,[[.emp 1,.emp 1,.emp 1,gi 0]]) :: kx bs)).symm
          · rw[List.take_of_length_le (by omega)] at hbs
            have f7:=ho.is 0 rfl (by simp)
            have f8:H2 b8=.arr 1 (bN (dZ g.au.length o)):=ho.is 1 rfl (by simp[dZ]; omega)
            have f2:=ho.is 6 rfl (by simp)
            have n72:b7≠b2:=ho.Jf 0 6 rfl rfl (by omega)
            have c1:=(ho.own 3 rfl).cells
            have k1:=(ho.own 3 rfl).lT
            have c2:=(ho.own 5 rfl).cells
            have k2:=(ho.own 5 rfl).lT
            simp (disch:=omega) only [↓wr,↓reduceIte,wq,ah,ag,aj,ab,ae,af,ai,isNil,Nat.reduceEqDiff,Nat.reduceAdd,Nat.reduceLT,Nat.reduceLeDiff,Int.reduceNeg,Int.reduceToNat,reduceCtorEq,t1,t2,t7,t8,t10,t13,f7,f8,f2,n72,n72.symm,hstb,c0,k0,c1,k1,c2,k2,aw,List.length_map]
            refine ⟨by omega,by simp[dZ]; omega,fun h' hh=>?_⟩
            have hoA:=ho.put (es':=[[u0,u1,u2,gi (bf o g.start)]]) rfl rfl
            have hoB:=(hoA.at 6 (by simp)).put (es':=[[u0,u1,u2,gi (bf o g.start)]]) rfl rfl
            have hv:h'.view=(H2.set b7 (.arr 4 [[u0,u1,u2,gi (bf o g.start)]])).set b2 (.arr 4 [[u0,u1,u2,gi (bf o g.start)]]):=hh
            rw[← hv] at hoB
            rw[hred]
            exact G8 (x:=(⟨g.ax,o.map fun x=>g.au.getD x.toNat ⟨#[]⟩,(g.rules.filter (bz p q)).map (bb (bf o)),bf o g.start⟩,kl,0)) (b:=bs) (hoB.own 5 rfl) (hoB.own 4 rfl) (hoB.own 6 rfl) (fun y hy=>hoB.1 y (by
              refine List.mem_cons_of_mem _ (List.mem_cons_of_mem _ (List.mem_cons_of_mem _ (List.mem_cons_of_mem _ (List.mem_cons_of_mem _ (List.mem_cons_of_mem _ (List.mem_cons_of_mem _ ?_))))))
              exact hy)) hbs (hoB.own 3 rfl)
  · rename_i hr
    intro h' hh
    rw[eW,if_neg (by simp[hr])]
    exact uh
theorem FA {g:an} (e:ln g=false):g.Small:=by
  simp only[ln,Bool.or_eq_false_iff,decide_eq_false_iff_not] at e
  exact ⟨by omega⟩
theorem K8 (g:an):aC Tryz.prog 16 [.agg (aw g)] (gb (ln g)):=aC.val (e9 g) fun H=>(Lm g H).mono fun _ _ h=>h.1
theorem zr {H:View} {id n:Nat} {l:List Int} (hv:H id=.arr 1 (bN l)) (hn:n=l.length):en H (.sl id 0 n 1) (encI l):=by
  subst hn
  exact en.own (sz:=1) (.inr ⟨id,by simp,hv⟩) fun e he v hv=>by
    obtain ⟨x,_,rfl⟩:=List.mem_map.1 he
    simp at hv; subst hv; exact .val _
theorem aW.elems {H:View} {u:V} {sz:Nat} {es:List (List V)} (h:aW H u sz es):∃ rd,bJ H u=some (es,rd):=by
  rcases h with ⟨rfl,k,rfl⟩ | ⟨n,rfl,hn⟩
  · exact ⟨[],rfl⟩
  · cases es with
    | nil=>exact ⟨[],rfl⟩
    | cons e r =>
      refine ⟨[n],?_⟩
      rw[List.length_cons,pk _ n 0 r.length sz sz _ hn (by simp),List.drop_zero,List.take_of_length_le (by simp)]
theorem cL.step {H H' H1:View} {u u1:V} (h:cL H H' u) (l:Left H' H1 u u1):cL H H1 u1:=fun id hid=>by
  have h1:=h id hid
  have h2:=l id (by rw[h1.1]; exact hid) h1.2
  exact ⟨h2.1.trans h1.1,h2.2⟩
theorem cL.put {H H':View} {u:V} {n:Nat} {o:bL} (h:cL H H' u) (hn:H' n=.dead):cL H (H'.set n o) u:=fun id hid=>by
  have h1:=h id hid
  have e:id≠n:=by rintro rfl; rw[h1.1] at hn; exact hid hn
  exact ⟨by simp[View.set,e,h1.1],h1.2⟩
theorem cL.call {H H' H2:View} {u r:V} (h:cL H H' u) (k:cL H' H2 r):cL H H2 u:=fun id hid=>by
  have h1:=h id hid
  have h2:=k id (by rw[h1.1]; exact hid)
  exact ⟨h2.1.trans h1.1,h1.2⟩
theorem lW {P:Program} {t:TypeId} {d:TypeDesc} (hu:P.underlying t=some d) (hd:d=.string∨∃ k,d=.int k) (cs:Array Value) (off:Nat) {v:Value} (hv:cs[off]?=some v):bu P (part t cs off)=some v:=by
  have h0:bu P (isAgg t)=some false:=by
    rcases hd with rfl | ⟨k,rfl⟩
    all_goals simp only[isAgg,bj,dW hu,Option.bind_some]; rfl
  simp only[part,bj,h0,Option.bind_some,Bool.false_eq_true,if_false,hv]
  rfl
inductive fG (P:Program) (d:Nat) (xs ys:Array Value):List Field→Bool→Prop
  | nil:fG P d xs ys [] true
  | str (f:Field) (l:List Field) (c:Bool) (a b:ByteArray):(f.name≠ "_")→P.underlying f.type=some .string→xs[f.offset]?=some (.string a)→ys[f.offset]?=some (.string b)→fG P d xs ys l c→fG P d xs ys (f :: l) (a == b && c)
  | int (f:Field) (l:List Field) (c:Bool) (k:IntKind) (a b:Int):(f.name≠ "_")→P.underlying f.type=some (.int k)→xs[f.offset]?=some (.int k a)→ys[f.offset]?=some (.int k b)→fG P d xs ys l c→fG P d xs ys (f :: l) (a == b && c)
theorem fG.forIn {P:Program} {d e:Nat} {xs ys:Array Value} {l:List Field} {c:Bool} (h:fG P d xs ys l c) (hd:e=d+1) :
    bu P (forIn l ((none:Option Bool),()) fun f _ =>
        if f.name≠ "_" then do
          let a ← part f.type xs f.offset
          let b ← part f.type ys f.offset
          let e ← Op.equalIn e f.type a b
          if (!e)=true then pure (ForInStep.done (some false,())) else pure (ForInStep.yield (none,()))
        else pure (ForInStep.yield (none,())))=some (if c=true then (none,()) else (some false,())):=by
  subst hd
  induction h with
  | nil=>rfl
  | str f l c a b hn hu hx hy _ ih =>
    have he:bu P (Op.equalIn (d+1) f.type (.string a) (.string b))=some (a == b):=by
      simp only[Op.equalIn,bj,dW hu,Option.bind_some]; rfl
    rw[List.forIn_cons,bj,if_pos hn,bj,lW hu (.inl rfl) xs _ hx,Option.bind_some,bj,lW hu (.inl rfl) ys _ hy,Option.bind_some,bj,he,Option.bind_some]
    cases a == b with
    | false=>rfl
    | true=>exact ih
  | int f l c k a b hn hu hx hy _ ih =>
    have he:bu P (Op.equalIn (d+1) f.type (.int k a) (.int k b))=some (a == b):=by
      simp only[Op.equalIn,bj,dW hu,Option.bind_some]; rfl
    rw[List.forIn_cons,bj,if_pos hn,bj,lW hu (.inr ⟨k,rfl⟩) xs _ hx,Option.bind_some,bj,lW hu (.inr ⟨k,rfl⟩) ys _ hy,Option.bind_some,bj,he,Option.bind_some]
    cases a == b with
    | false=>rfl
    | true=>exact ih
theorem yD {P:Program} {t:TypeId} {fs:Array Field} {xs ys:Array Value} {c:Bool} (hu:P.underlying t=some (.struct fs)) (hs:P.stoodInHeld t=false) (h:fG P 9998 xs ys fs.toList c) :
    bu P (Op.equal t (.agg xs) (.agg ys))=some c:=by
  rw[jT]
  rw[Op.equalIn,bj,dW hu,Option.bind_some]
  have hst:(bu P program)=some P:=rfl
  rw[bj,hst,Option.bind_some,hs]
  simp only[← Array.forIn_toList,Bool.false_eq_true,if_false]
  rw[bj,h.forIn (e:=9999) rfl,Option.bind_some]
  cases c <;> rfl
theorem A5 {P:Program} {o:Oper} {T:Env} {op:BinOp} {t u:TypeId} {x y:Operand} {fs:Array Field} {xs ys:Array Value} {c r:Bool} (ho:o.op=.binOp op t x y u) (hu:P.underlying t=some (.struct fs)) (hs:P.stoodInHeld t=false) (hg:P.eqGuardType P.depth t=false)
    (hx:cK (ev T x)=some (.agg xs)) (hy:cK (ev T y)=some (.agg ys)) (h:fG P 9998 xs ys fs.toList c) (hr:(op=.eql∧r=c)∨(op=.neq∧r = !c)) :
    c7 P o T=some (.val (.bool r),.none,[]):=by
  have he:=yD hu hs h
  have hst:(bu P program)=some P:=rfl
  unfold c7
  simp only[ho,Op.operands,hx,hy]
  rcases hr with ⟨rfl,rfl⟩ | ⟨rfl,rfl⟩
  · simp[execOp,ho,hx,hy,eqGuard,binOp,gM,bj,hst,hg,he,plain]
    try simp[bu,pure,plain]
  · simp[execOp,ho,hx,hy,eqGuard,binOp,gM,bj,hst,hg,he,plain]
    try simp[bu,pure,plain,bne]
theorem ki {P:Program} {T:Env} {H:View} {K:V→View→Prop} {w:cw (T,H,K)} {op:BinOp} {t u ty:TypeId} {x y:Operand} {fs:Array Field} {xs ys:Array Value} {c r:Bool} (hu:P.underlying t=some (.struct fs)) (hs:P.stoodInHeld t=false) (hg:P.eqGuardType P.depth t=false)
    (hx:cK (ev T x)=some (.agg xs)) (hy:cK (ev T y)=some (.agg ys)) (h:fG P 9998 xs ys fs.toList c) (hr:(op=.eql∧r=c)∨(op=.neq∧r = !c)) (hk:K (.val (.bool r)) H):nq P (.binOp op t x y u) ty T H K w:=by
  intro n _
  refine ⟨.val (.bool r),.none,[],?_,hk⟩
  have hn:g9 P t=none:=by simp[g9,hu]
  simp only[sI,bU,oper,hn]
  simp only[Option.isSome_none,Bool.false_eq_true,if_false]
  exact A5 rfl hu hs hg hx hy h hr
def wE (hp:Array Obj) (cs:List Value) (vs:List V):Prop :=
  vs.length=cs.length∧∀ μ i,i < vs.length→az (fun b=>b < hp.size) μ hp (vs.getD i .any) (cs.getD i undef)
def Wt {H:Type} (P:Program) (t:TypeId) (d:DataW H):Prop:=∀ n∈d.weights P t,n≤reachBytes
def vL (P:Program) (t:TypeId) {α:Type} (f:α→List V) (ok:α→Prop):Prop :=
  ∀ {H:Type} (enc:TypeId × Value→H) (w:World) (base:Nat) (sp:Nat→Bool) (held:Bool) (fuel:Nat) (cs:List Value) (x:DataW H × List MemPlace),
    DataW.trod enc P w base sp held fuel t cs=some x→Wt P t x.1→∃ a,ok a∧wE w.heap cs (f a)
theorem ue {hp:Array Obj} {c:Value} {v:V} (h:∀ μ,az (fun b=>b < hp.size) μ hp v c):wE hp [c] [v]:=by
  refine ⟨rfl,fun μ i hi=>?_⟩
  match i,hi with
  | 0,_=>exact h μ
theorem ND {P:Program} {t:TypeId} {k:IntKind} (ht:P.underlying t=some (.int k)):vL P t (fun n=>[.val (.int k n)]) (fun n=>(Lit.int k n).wf=true):=by
  intro H enc w base sp held fuel cs x h _
  obtain ⟨n,rfl,_,hw⟩:=DataW.trod_int ht h
  exact ⟨n,hw,ue fun μ=>.val _ rfl⟩
theorem BW {P:Program} {t:TypeId} (ht:P.underlying t=some .string):vL P t (fun s=>[.val (.string s)]) (fun _=>True):=by
  intro H enc w base sp held fuel cs x h _
  obtain ⟨s,rfl,_,_⟩:=DataW.trod_string ht h
  exact ⟨s,trivial,ue fun μ=>.val _ rfl⟩
theorem Dc {w:World} {base:Nat} {a:Addr} {n:Nat} {cs:List Value} (h:w.cells? base a n=some cs):cs.length=n∧∀ i,i < n→w.cell? (a.add i)=some (cs.getD i undef):=by
  obtain ⟨_,h2,h3⟩:=World.cells?_some h
  refine ⟨h2,fun i hi=>?_⟩
  rw[h3 i hi,List.getD_eq_getElem?_getD,List.getElem?_eq_getElem (by omega)]
  rfl
theorem JO {w:World} {a:Addr} {v:Value} (h:w.cell? a=some v):a.spot=none∧a.block < w.heap.size:=by
  unfold World.cell? at h
  split at h
  · rename_i c _ _ hb
    split at h
    · simp at h
    · rename_i hs
      exact ⟨by simpa using hs,(Array.getElem?_eq_some_iff.1 hb).1⟩
  · simp at h
theorem JU {H:Type} {P:Program} {e:TypeId} : ∀ {l:List (DataW H)},(∀ n∈DataW.weightsAll P e l,n≤reachBytes)→∀ d∈l,Wt P e d
  | [],_,d,hd=>by simp at hd
  | x :: l,h,d,hd=>by
    simp only[DataW.weightsAll,List.mem_append] at h
    rcases List.mem_cons.1 hd with rfl | hd
    · exact fun n hn=>h n (.inl hn)
    · exact JU (fun n hn=>h n (.inr hn)) d hd
theorem Le {H:Type} {P:Program} {t e:TypeId} {elems spare:List (DataW H)} (ht:P.underlying t=some (.slice e)) (h:Wt P t (.slice elems spare)) :
    (elems.length+spare.length) * P.bytesOf e≤reachBytes∧∀ d∈elems,Wt P e d:=by
  unfold Wt at h
  unfold DataW.weights at h
  rw[ht] at h
  simp only[List.mem_cons,List.mem_append] at h
  exact ⟨h _ (.inl rfl),JU fun n hn=>h n (.inr (.inl hn))⟩
theorem IU {H:Type} {P:Program} {t:TypeId} {fs:Array Field} {parts:List (DataW H)} (ht:P.underlying t=some (.struct fs)) (h:Wt P t (.agg parts)) {j:Nat} {f:Field} {d:DataW H} (hf:fs[j]?=some f) (hd:parts[j]?=some d):Wt P f.type d:=by
  intro n hn
  refine h n ?_
  unfold DataW.weights
  rw[ht]
  exact DataW.weights_mem_each (j:=j) (t:=f.type) (by simp[hf]) hd n hn
theorem FI {α:Type} {φ:Nat→α→Prop} : ∀ (n:Nat),(∀ i,i < n→∃ a,φ i a)→∃ l:List α,l.length=n∧∀ i (hi:i < l.length),φ i l[i]
  | 0,_=>⟨[],rfl,fun i hi=>by simp at hi⟩
  | n+1,h=>by
    obtain ⟨l,hl,hφ⟩:=FI n fun i hi=>h i (by omega)
    obtain ⟨a,ha⟩:=h n (by omega)
    refine ⟨l ++ [a],by simp[hl],fun i hi=>?_⟩
    by_cases e:i < l.length
    · rw[List.getElem_append_left e]; exact hφ i e
    · have:i=n:=by simp at hi; omega
      subst this
      rw[List.getElem_append_right (by omega)]
      simp only[hl,Nat.sub_self,List.getElem_cons_zero]; exact ha
theorem tS {P:Program} {t e:TypeId} {α:Type} {f:α→List V} {ok:α→Prop} (ht:P.underlying t=some (.slice e)) (hc:0 < P.cellsOf e) (hb:0 < P.bytesOf e) (he:vL P e f ok) :
    vL P t (fun l:List α=>[.aV (l.map f)]) (fun l=>l.length < 4611686018427387904∧∀ a∈l,ok a):=by
  intro H enc w base sp held fuel cs x h hw
  rcases DataW.trod_slice ht h with ⟨rfl,rfl⟩ | ⟨a,len,cap,elems,rest,n,_,rfl,rfl,hba,hl,hm,hlen,hel,_,_⟩
  · exact ⟨[],⟨by simp,by simp⟩,ue fun μ=>.gh none 0 (by simp)⟩
  obtain ⟨hw1,hw2⟩:=Le ht hw
  simp only[List.length_map] at hw1
  have hlt:len < 4611686018427387904:=by
    have h1:len * 1≤(elems.length+rest.length) * P.bytesOf e:=Nat.mul_le_mul (by omega) hb
    unfold reachBytes at hw1
    omega
  have each:∀ i,i < len→∃ y,ok y∧∃ ci,w.cells? base (a.add (i * P.cellsOf e)) (P.cellsOf e)=some ci∧wE w.heap ci (f y):=by
    intro i hi
    have h1:=hel i hi
    have h2:elems[i]?=some (elems[i]'(by omega)):=List.getElem?_eq_getElem (by omega)
    have hmem:elems[i]'(by omega)∈elems:=List.getElem_mem _
    rw[h2,Option.bind_eq_some_iff] at h1
    obtain ⟨ci,h3,h4⟩:=h1
    obtain ⟨y,h5,h6⟩:=he enc w base sp held n ci _ h4 (hw2 _ (List.mem_map.2 ⟨_,hmem,rfl⟩))
    exact ⟨y,h5,ci,h3,h6⟩
  obtain ⟨l,hll,hφ⟩:=FI len each
  subst hll
  refine ⟨l,⟨hlt,fun y hy=>?_⟩,ue fun μ=>?_⟩
  · obtain ⟨i,hi,rfl⟩:=List.getElem_of_mem hy
    exact (hφ i hi).1
  by_cases h0:l=[]
  · subst h0
    exact .gh (some a) cap (by simp)
  have hpos:0 < l.length:=List.length_pos_iff.2 h0
  have hcell:∀ i j,i < l.length→j < P.cellsOf e→∃ c,cellAt w.heap a.block (a.off+i * P.cellsOf e+j)=some c∧a.block < w.heap.size∧(i=0→j=0→a.spot=none)∧∀ (hi:i < l.length),az (fun b=>b < w.heap.size) μ w.heap ((f l[i]).getD j .any) c:=by
    intro i j hi hj
    obtain ⟨_,ci,h1,h2⟩:=hφ i hi
    obtain ⟨h3,h4⟩:=Dc h1
    have h5:=h4 j hj
    have h6:=JO h5
    have hbk:((a.add (i * P.cellsOf e)).add j).block=a.block:=by simp only[Addr.add]; split <;> split <;> rfl
    have hof:((a.add (i * P.cellsOf e)).add j).off=a.off+i * P.cellsOf e+j:=by
      simp only[Addr.add]; split <;> split <;> simp_all
    refine ⟨ci.getD j undef,?_,by rw[← hbk]; exact h6.2,?_,fun _=>?_⟩
    · rw[← hof,← hbk,← lj]
      rw[← h5]
      congr 1
      generalize (a.add (i * P.cellsOf e)).add j=b at h6
      cases b
      simp at h6 ⊢
      exact h6.1.symm
    · rintro rfl rfl
      simp[Addr.add] at h6
      exact h6.1
    · exact h2.2 μ j (by rw[h2.1,h3]; exact hj)
  obtain ⟨_,_,hz,hs,_⟩:=hcell 0 0 hpos hc
  have ha:a=⟨a.block,a.off,none⟩:=by
    cases a; simp at hs ⊢; exact hs
  have hlf:∀ i,i < l.length→(f (l[i]?.getD (l[0]'hpos))).length=P.cellsOf e:=fun i hi=>by
    obtain ⟨_,ci,h1,h2⟩:=hφ i hi
    rw[List.getElem?_eq_getElem hi,Option.getD_some,h2.1,(Dc h1).1]
  have hgd:∀ i (hi:i < l.length),(l.map f).getD i []=f l[i]:=fun i hi=>by simp[List.getD_eq_getElem?_getD,hi]
  have hcl:(l.map f).length=l.length:=by simp
  have:=az.aV (Z:=fun b=>b < w.heap.size) (μ:=μ) (hp:=w.heap) (l.map f) a.block a.off (P.cellsOf e) cap (fun i j=>(cellAt w.heap a.block (a.off+i * P.cellsOf e+j)).getD undef) hz (by rw[hcl]; exact hl)
    (fun i hi=>by
      rw[hcl] at hi
      have:=hlf i hi
      rw[List.getElem?_eq_getElem hi,Option.getD_some] at this
      rw[hgd i hi]; exact this)
    (fun i j hi hj=>by
      rw[hcl] at hi
      obtain ⟨c,h1,_⟩:=hcell i j hi hj
      rw[h1]; rfl)
    (fun i j hi hj=>by
      rw[hcl] at hi
      obtain ⟨c,h1,_,_,h2⟩:=hcell i j hi hj
      rw[h1,hgd i hi]; exact h2 hi)
  rw[hcl,← ha] at this
  exact this
theorem vd {P:Program} {t:TypeId} {fs:Array Field} (ht:P.underlying t=some (.struct fs)) (hf:∀ (i:Nat) (f:Field),fs[i]?=some f→f.offset=i∧P.cellsOf f.type=1) (hn:P.cellsOf t=fs.size)
    {H:Type} {enc:TypeId × Value→H} {w:World} {base:Nat} {sp:Nat→Bool} {held:Bool} {fuel:Nat} {cs:List Value} {x:DataW H × List MemPlace} (h:DataW.trod enc P w base sp held fuel t cs=some x) (hw:Wt P t x.1) :
    cs.length=fs.size∧∀ (i:Nat) (f:Field),fs[i]?=some f→∀ {α:Type} {g:α→List V} {ok:α→Prop},vL P f.type g ok→∃ a,ok a∧wE w.heap [cs.getD i undef] (g a):=by
  obtain ⟨xs,n,rfl,rfl,hl,hlen,hx⟩:=DataW.trod_struct ht h
  refine ⟨by rw[hl,hn],fun i f hi α g ok hr=>?_⟩
  obtain ⟨h1,h2⟩:=hf i f hi
  have hi2:i < fs.size:=(Array.getElem?_eq_some_iff.1 hi).1
  have h3:=hx i f hi
  have h4:xs[i]?=some (xs[i]'(by omega)):=List.getElem?_eq_getElem (by omega)
  rw[h4,h1,h2] at h3
  have h5:(cs.drop i).take 1=[cs.getD i undef]:=by
    rw[List.getD_eq_getElem?_getD,List.getElem?_eq_getElem (by omega),List.drop_eq_getElem_cons (by omega)]
    rfl
  rw[h5] at h3
  exact hr enc w base sp held n _ _ h3 (IU ht hw hi (by simp[h4]))
theorem fW {hp:Array Obj} {c:Value} {cs:List Value} {v:V} {vs:List V} (h:wE hp [c] [v]) (k:wE hp cs vs):wE hp (c :: cs) (v :: vs):=by
  refine ⟨by simp[k.1],fun μ i hi=>?_⟩
  cases i with
  | zero=>exact h.2 μ 0 (by simp)
  | succ i=>exact k.2 μ i (by simpa using hi)
theorem x3 {hp:Array Obj} : wE hp [] []:=⟨rfl,fun μ i hi=>by simp at hi⟩
theorem Np {n:Int} (h:(Lit.int .i64 n).wf=true):cm n:=by
  simp only[Lit.wf,Bool.and_eq_true,decide_eq_true_eq] at h
  exact h
theorem nh:vL Tryz.prog 3 (fun n=>[gi n]) cm:=fun enc w base sp held fuel cs x h hw=>by
  obtain ⟨n,h1,h2⟩:=ND Tryz.underlying3 enc w base sp held fuel cs x h hw
  exact ⟨n,Np h1,h2⟩
theorem Nd:vL Tryz.prog 43 (fun l:List Int=>[encI l]) (fun l=>aX l∧∀ x∈l,cm x) :=
  tS Tryz.underlying43 (of_decide_eq_true (by kernel_rfl)) (of_decide_eq_true (by kernel_rfl)) nh
theorem HM:vL Tryz.prog 23 (fun l:List ByteArray=>[encS l]) (fun l=>aX l∧∀ x∈l,True) :=
  tS Tryz.underlying23 (of_decide_eq_true (by kernel_rfl)) (of_decide_eq_true (by kernel_rfl)) (BW Tryz.underlying9)
theorem OS {cs:List Value} (h:cs.length=3):cs=[cs.getD 0 undef,cs.getD 1 undef,cs.getD 2 undef]:=by
  match cs,h with
  | [a,b,c],_=>rfl
theorem P0 {cs:List Value} (h:cs.length=4):cs=[cs.getD 0 undef,cs.getD 1 undef,cs.getD 2 undef,cs.getD 3 undef]:=by
  match cs,h with
  | [a,b,c,d],_=>rfl
theorem Nh:vL Tryz.prog 129 cp (fun t=>cm t.level∧cm t.assoc):=fun enc w base sp held fuel cs x h hw=>by
  obtain ⟨hl,hf⟩:=vd Tryz.underlying129 (by
    intro i f hi
    match i,hi with
    | 0,hi=>simp at hi; subst hi; exact ⟨rfl,by kernel_rfl⟩
    | 1,hi=>simp at hi; subst hi; exact ⟨rfl,by kernel_rfl⟩
    | 2,hi=>simp at hi; subst hi; exact ⟨rfl,by kernel_rfl⟩
    | n+3,hi=>simp at hi) (by kernel_rfl) h hw
  obtain ⟨a,_,h1⟩:=hf 0 _ rfl (BW Tryz.underlying9)
  obtain ⟨b,h2,h3⟩:=hf 1 _ rfl nh
  obtain ⟨c,h4,h5⟩:=hf 2 _ rfl nh
  refine ⟨⟨a,b,c⟩,⟨h2,h4⟩,?_⟩
  rw[OS hl]
  exact fW h1 (fW h3 (fW h5 x3))
theorem Nl:vL Tryz.prog 71 aU (fun r=>cm r.left∧cm r.prec∧aX r.right∧∀ x∈r.right,cm x):=fun enc w base sp held fuel cs x h hw=>by
  obtain ⟨hl,hf⟩:=vd Tryz.underlying71 (by
    intro i f hi
    match i,hi with
    | 0,hi=>simp at hi; subst hi; exact ⟨rfl,by kernel_rfl⟩
    | 1,hi=>simp at hi; subst hi; exact ⟨rfl,by kernel_rfl⟩
    | 2,hi=>simp at hi; subst hi; exact ⟨rfl,by kernel_rfl⟩
    | n+3,hi=>simp at hi) (by kernel_rfl) h hw
  obtain ⟨a,h0,h1⟩:=hf 0 _ rfl nh
  obtain ⟨b,h2,h3⟩:=hf 1 _ rfl Nd
  obtain ⟨c,h4,h5⟩:=hf 2 _ rfl nh
  refine ⟨⟨a,b,c⟩,⟨h0,h4,h2.1,h2.2⟩,?_⟩
  rw[OS hl]
  exact fW h1 (fW h3 (fW h5 x3))
theorem MS:vL Tryz.prog 26 aw an.Ok:=fun enc w base sp held fuel cs x h hw=>by
  obtain ⟨hl,hf⟩:=vd Tryz.underlying26 (by
    intro i f hi
    match i,hi with
    | 0,hi=>simp at hi; subst hi; exact ⟨rfl,by kernel_rfl⟩
    | 1,hi=>simp at hi; subst hi; exact ⟨rfl,by kernel_rfl⟩
    | 2,hi=>simp at hi; subst hi; exact ⟨rfl,by kernel_rfl⟩
    | 3,hi=>simp at hi; subst hi; exact ⟨rfl,by kernel_rfl⟩
    | n+4,hi=>simp at hi) (by kernel_rfl) h hw
  obtain ⟨a,h0,h1⟩:=hf 0 _ rfl (tS Tryz.underlying22 (of_decide_eq_true (by kernel_rfl)) (of_decide_eq_true (by kernel_rfl)) Nh)
  obtain ⟨b,h2,h3⟩:=hf 1 _ rfl HM
  obtain ⟨c,h4,h5⟩:=hf 2 _ rfl (tS Tryz.underlying24 (of_decide_eq_true (by kernel_rfl)) (of_decide_eq_true (by kernel_rfl)) Nl)
  obtain ⟨d,h6,h7⟩:=hf 3 _ rfl nh
  refine ⟨⟨a,b,c,d⟩,⟨h0.1,h2.1,h4.1,h6,h0.2,h4.2⟩,?_⟩
  rw[P0 hl]
  exact fW h1 (fW h3 (fW h5 (fW h7 x3)))
def qR:SC :=
  .seq (ak [aK 44 .lss 43 42]) <|
  .seq (.cond (.tmp 44) (.skip) (.exit 0)) <|
  .seq (.block 1 (.seq (ak [aa 45 43,aL 46 3 41 43,aJ 47 3 46,((some 11),.op (.alloc [(.val (.int .i64 0)),(.emp 1),(.val (.int .i64 0))])),aa 10 45,(none,.op (.store 3 (.tmp 11) (.tmp 47)))]) <|
  .seq (.seq (.region false [⟨none,[aa 48 6,aq 49 0 11,ao 50 49,aL 51 1 48 50,ao 52 51,bW 53 52,aa 54 53]⟩,⟨(some (54,false)),[aJ 55 3 11,aa 56 5,aF 57 160 [55,56],bW 58 57]⟩,⟨none,[bF 59 54 58]⟩]) <|
  .cond (.tmp 59) (.exit 1) (.skip)) <|
  .seq (ak [aa 60 7,aa 61 10,((some 62),.op (.bD 1 1 [(.val (.int .i64 0))] [(0,(.tmp 61))])),((some 63),.op (.app 1 8 (.tmp 60) (.tmp 62))),aa 7 63]) <|
  .seq (ak [aa 65 9,aq 66 0 11,ao 67 66,((some 68),.op (.old (.lookup 204 (.tmp 65) (.tmp 67) true) 30)),aa 64 68,cM 69 0 64,cM 70 1 64,aa 12 69,aa 13 70]) <|
  .seq (ak [aa 71 13,bW 72 71]) <|
  .cond (.tmp 72) (.seq (ak [aa 73 9,aq 74 0 11,ao 75 74,aq 76 1 8,ao 77 76,aI 78 77,(none,.op (.old (.mapUpdate 204 (.tmp 73) (.tmp 75) (.tmp 78)) 0))]) <|
  .region false [⟨none,[aq 79 1 8,ao 80 79,aq 81 1 1,ao 82 81,aq 83 0 11,ao 84 83,aL 85 1 82 84,ao 86 85,((some 87),.op (.bD 1 1 [(.val (.string ⟨#[]⟩))] [(0,(.tmp 86))])),((some 88),.op (.app 1 16 (.tmp 80) (.tmp 87))),aq 89 1 8,(none,.op (.store 1 (.tmp 89) (.tmp 88)))]⟩]) (.skip))) <|
  ak [ay 90 .add 43 1,aa 43 90]
def q7:SC :=
  .seq (ak [aK 116 .lss 115 114]) <|
  .seq (.cond (.tmp 116) (.skip) (.exit 4)) <|
  .seq (.block 5 (.seq (ak [aa 117 115,aL 118 1 113 115,ao 119 118,aa 18 117,aa 19 119]) <|
  .seq (ak [aa 120 19,ay 121 .lss 120 0]) <|
  .cond (.tmp 121) (ak [aq 122 1 17,ao 123 122,aa 124 18,aa 125 9,aa 126 19,((some 127),.op (.arith .sub (.val (.val (.int .i64 (-1)))) (.tmp 126))),((some 128),.op (.old (.lookup 204 (.tmp 125) (.tmp 127) false) 3)),((some 129),.op (.arith .sub (.val (.val (.int .i64 (-1)))) (.tmp 128))),aL 130 1 123 124,(none,.op (.store 1 (.tmp 130) (.tmp 129)))]) (.skip))) <|
  ak [ay 131 .add 115 1,aa 115 131]
def qI:SC :=
  .seq (ak [aK 94 .lss 93 92]) <|
  .seq (.cond (.tmp 94) (.skip) (.exit 2)) <|
  .seq (.block 3 (.seq (ak [aL 95 1 91 93,ao 96 95,aa 15 96]) <|
  .seq (ak [aq 97 2 1,ao 98 97,aa 99 15,aL 100 3 98 99,aJ 101 3 100,((some 16),.op (.alloc [(.val (.int .i64 0)),(.emp 1),(.val (.int .i64 0))])),(none,.op (.store 3 (.tmp 16) (.tmp 101)))]) <|
  .seq (.region true [⟨none,[aa 102 9,aq 103 0 16,ao 104 103,((some 105),.op (.old (.lookup 204 (.tmp 102) (.tmp 104) false) 3)),aq 106 1 16,ao 107 106,aF 108 161 [107],aq 109 2 16,ao 110 109,((some 111),.op (.build [(.val (.int .i64 0)),(.emp 1),(.val (.int .i64 0))] [(0,1,(.tmp 105)),(1,1,(.tmp 108)),(2,1,(.tmp 110))])),((some 17),.op (.alloc [(.val (.int .i64 0)),(.emp 1),(.val (.int .i64 0))])),(none,.op (.store 3 (.tmp 17) (.tmp 111)))]⟩]) <|
  .seq (.seq (ak [aq 112 1 17,ao 113 112,aI 114 113,aD 115 0]) <|
  .block 4 (.loop q7)) <|
  ak [aq 132 2 8,ao 133 132,aJ 134 3 17,((some 135),.op (.bD 1 3 [(.val (.int .i64 0)),(.emp 1),(.val (.int .i64 0))] [(0,(.tmp 134))])),((some 136),.op (.app 3 40 (.tmp 133) (.tmp 135))),aq 137 2 8,(none,.op (.store 1 (.tmp 137) (.tmp 136)))])) <|
  ak [ay 138 .add 93 1,aa 93 138]
def uq:SF:=⟨.seq (ak [cr 1 0,((some 2),.op (.alloc [(.emp 1),(.emp 1),(.emp 1),(.val (.int .i64 0))])),((some 3),.op (.bg (.val (.emp 1)))),aD 4 0]) <|
  .seq (.seq (ak [aJ 20 4 1,aF 21 52 [20],bW 22 21]) <|
  .cond (.tmp 22) (.seq (ak [((some 23),.op (.build [(.emp 1),(.emp 1),(.emp 1),(.val (.int .i64 0))] [])),(none,.op (.store 4 (.tmp 2) (.tmp 23))),((some 3),.op (.bg (.val (.emp 1)))),aD 4 1]) <|
  .ret) (.skip)) <|
  .seq (.region true [⟨none,[aJ 24 4 1,aF 25 157 [24],aJ 26 4 1,aF 27 158 [26],aa 5 25,aa 6 27]⟩]) <|
  .seq (.seq (ak [aa 28 5,aq 29 3 1,ao 30 29,aL 31 1 28 30,ao 32 31,bW 33 32]) <|
  .cond (.tmp 33) (.seq (ak [((some 34),.op (.build [(.emp 1),(.emp 1),(.emp 1),(.val (.int .i64 0))] [])),(none,.op (.store 4 (.tmp 2) (.tmp 34))),((some 3),.op (.bg (.val (.emp 1)))),aD 4 9]) <|
  .ret) (.skip)) <|
  .seq (ak [((some 7),.op (.bg (.val (.emp 1))))]) <|
  .seq (ak [aq 35 0 1,ao 36 35,aF 37 159 [36],((some 38),.op (.build [(.emp 1),(.emp 1),(.emp 1),(.val (.int .i64 0))] [(0,1,(.tmp 37))])),((some 8),.op (.alloc [(.emp 1),(.emp 1),(.emp 1),(.val (.int .i64 0))])),(none,.op (.store 4 (.tmp 8) (.tmp 38)))]) <|
  .seq (ak [((some 39),.op (.lS)),aa 9 39]) <|
  .seq (.seq (ak [aq 40 2 1,ao 41 40,aI 42 41,aD 43 0]) <|
  .block 0 (.loop qR)) <|
  .seq (.seq (ak [aa 91 7,aI 92 91,aD 93 0]) <|
  .block 2 (.loop qI)) <|
  .seq (ak [aa 139 9,aq 140 3 1,ao 141 140,((some 142),.op (.old (.lookup 204 (.tmp 139) (.tmp 141) false) 3)),aq 143 3 8,(none,.op (.store 1 (.tmp 143) (.tmp 142)))]) <|
  .seq (ak [aJ 144 4 8,aa 145 7,(none,.op (.store 4 (.tmp 2) (.tmp 144))),aa 3 145,aD 4 0]) <|
  .ret,
  [.cell 2 (some 4),.tmp 3,.tmp 4],146⟩
theorem yq:bh Tryz.prog 109 [1]=some uq:=by kernel_rfl
abbrev vB (m:bZ Int):List (V × V × Nat):=bP (Value.int .i64) m
def N5 (g:an) (p q:List Bool) (b2 b8 b9:Nat) (u0:V) (i:Nat) (T:Env) (H:View):Prop :=
  (∃ u1 u3:V,T 7=u3∧(∀ x∈bK p q (g.rules.take i),0≤x∧x < g.au.length)∧(bK p q (g.rules.take i)).length≤i ∧
    bc H [(.sl b8 0 1 4,4,[[u0,u1,.emp 1,gi 0]]),(u3,1,bN (b6 p q (g.rules.take i) 0)),
      (u1,1,ja ((bK p q (g.rules.take i)).map fun x=>g.au.getD x.toNat ⟨#[]⟩)),(u0,3,g.ax.map cp),(.sl b2 0 1 4,4,[[.emp 1,.emp 1,.emp 1,gi 0]])] ∧
    ∃ m c,H b9=.map (vB m) c∧lF gi (iz (bK p q (g.rules.take i)) 0) m) ∧
  T 1=.aO (aw g) 0∧T 2=.ptr b2 0 0∧T 5=bM p∧T 6=bM q∧T 8=.ptr b8 0 0∧T 9=.mp b9∧T 41=.aV (g.rules.map aU)∧T 42=gi g.rules.length∧T 43=gi i
theorem AP {α:Type} {x s:α} : ∀ {a d:List α} {k:Nat},a.length=k→(a ++ s :: d).set k x=a ++ x :: d
  | [],d,k,h=>by simp at h; subst h; rfl
  | y :: a,d,k,h=>by
    cases k with
    | zero=>simp at h
    | succ k=>simp only[List.cons_append,List.set_cons_succ]; rw[AP (by simpa using h)]
def PG (g:an) (p q:List Bool) (b2 b8 b9:Nat) (u0 u1 u3:V) (o kl:List Int) (mm:bZ Int) (cc:Nat) (i:Nat) (T:Env) (H:View):Prop :=
  (∃ (u2:V) (bs:wV),bs.map (·.2)=((g.rules.filter (bz p q)).take i).map (bb (dh o)) ∧
    bc H ((.sl b8 0 1 4,4,[[u0,u1,u2,gi 0]]) :: (u3,1,bN kl) ::
      (u1,1,ja (o.map fun x=>g.au.getD x.toNat ⟨#[]⟩)) :: (u0,3,g.ax.map cp) :: (u2,3,fM bs) :: (.sl b2 0 1 4,4,[[.emp 1,.emp 1,.emp 1,gi 0]]) :: kx bs) ∧
    H b9=.map (vB mm) cc) ∧
  T 1=.aO (aw g) 0∧T 2=.ptr b2 0 0∧T 7=u3∧T 8=.ptr b8 0 0∧T 9=.mp b9∧T 91=u3∧T 92=gi kl.length∧T 93=gi i
def PD (g:an) (b2 b8 b9 b16 b17:Nat) (u3 v:V) (o kl:List Int) (mm:bZ Int) (cc:Nat) (r:aM) (L:List er) (i k:Nat) (T:Env) (H:View):Prop :=
  bc H ((.sl b17 0 1 3,3,[[gi (dh o r.left),v,gi r.prec]]) :: (v,1,bN ((bb (dh o) r).right.take k ++ r.right.drop k)) :: (.sl b16 0 1 3,3,[aU r]) :: L) ∧
  H b9=.map (vB mm) cc∧T 1=.aO (aw g) 0∧T 2=.ptr b2 0 0∧T 7=u3∧T 8=.ptr b8 0 0∧T 9=.mp b9∧T 91=u3∧T 92=gi kl.length∧T 93=gi i∧T 17=.ptr b17 0 0∧T 113=v∧T 114=gi r.right.length∧T 115=gi k
set_option maxHeartbeats 8000000 in
theorem FB (g:an) (hg:g.Ok) (hs:g.Small):dF Tryz.prog 109 [.agg (aw g)] (tX (if bH g=true then
    if (aH g true).getD g.start.toNat false=true then (j7 g (dh (bK (aH g true) (bB g) g.rules)) (aH g true) (bB g),b6 (aH g true) (bB g) g.rules 0,0)
    else (qC,[],9)
  else (qC,[],1))):=by
  refine dF.of (e9 g) ?_
  refine aA.of mixed yq ?_
  simp (disch:=omega) only [↓wr,↓reduceIte,wq,ah,ag,aj,ab,ae,af,ai,isNil,Nat.reduceEqDiff,Nat.reduceAdd,Nat.reduceLT,Nat.reduceLeDiff,Int.reduceNeg,Int.reduceToNat,reduceCtorEq,uq,aw,encS]
  intro b2
  try simp (disch:=omega) only [↓wr,↓reduceIte,wq,ah,ag,aj,ab,ae,af,ai,isNil,Nat.reduceEqDiff,Nat.reduceAdd,Nat.reduceLT,Nat.reduceLeDiff,Int.reduceNeg,Int.reduceToNat,reduceCtorEq,aw,encS]
  refine aE.pure (q6 g hg hs.names) (by kernel_rfl) ?_
  repeat' (first | (refine av.dec (fun _=>?_) (fun _=>?_)) | (refine av.eq (fun _=>?_) (fun _=>?_)) | (refine av.ne (fun _=>?_) (fun _=>?_)) | (refine av.split (fun _=>?_) (fun _=>?_)) | (simp (disch:=omega) only [↓wr,↓reduceIte,wq,ah,ag,aj,ab,ae,af,ai,isNil,Nat.reduceEqDiff,Nat.reduceAdd,Nat.reduceLT,Nat.reduceLeDiff,Int.reduceNeg,Int.reduceToNat,reduceCtorEq,aw,encS,set_set]))
  · rename_i hr
    rw[if_pos hr]
    refine aE.pure (sn g hg hs).pure (by kernel_rfl) ?_
    simp (disch:=omega) only [↓wr,↓reduceIte,wq,ah,ag,aj,ab,ae,af,ai,isNil,Nat.reduceEqDiff,Nat.reduceAdd,Nat.reduceLT,Nat.reduceLeDiff,Int.reduceNeg,Int.reduceToNat,reduceCtorEq,aw,encS]
    refine aE.pure (CC g hg hs).pure (by kernel_rfl) ?_
    have hf:=bI hr
    have h3:=hf.jo
    have h4:=hf.start
    have hpl:=iL hr true
    have hql:=nk hr
    generalize aH g true=p at hpl ⊢
    generalize bB g=q at hql ⊢
    have hps:p[g.start.toNat]?=some (p[g.start.toNat]'(by omega)):=List.getElem?_eq_getElem (by omega)
    have hpd:p.getD g.start.toNat false=p[g.start.toNat]'(by omega):=by simp[List.getD_eq_getElem?_getD,hps]
    generalize p[g.start.toNat]'(by omega)=s at hps hpd
    rw[hpd]
    simp (disch:=omega) only [↓wr,↓reduceIte,wq,ah,ag,aj,ab,ae,af,ai,isNil,Nat.reduceEqDiff,Nat.reduceAdd,Nat.reduceLT,Nat.reduceLeDiff,Int.reduceNeg,Int.reduceToNat,reduceCtorEq,aw,encS,bM,List.getElem?_map,hps]
    cases s with
    | false =>
      simp (disch:=omega) only [↓wr,↓reduceIte,wq,ah,ag,aj,ab,ae,af,ai,isNil,Nat.reduceEqDiff,Nat.reduceAdd,Nat.reduceLT,Nat.reduceLeDiff,Int.reduceNeg,Int.reduceToNat,reduceCtorEq,aw,encS,set_set]
      rintro h' hh
      exact uh
    | true =>
      simp (disch:=omega) only [↓wr,↓reduceIte,wq,ah,ag,aj,ab,ae,af,ai,isNil,Nat.reduceEqDiff,Nat.reduceAdd,Nat.reduceLT,Nat.reduceLeDiff,Int.reduceNeg,Int.reduceToNat,reduceCtorEq,aw,encS,set_set]
      have hN:=hf.au
      have hN1:=hf.q8
      have hT:=hf.ax
      have hR:=hf.rules
      refine aE.oO ((Jt g.ax (by omega) _).mono ?_)
      rintro u0 H1 ⟨hu0,hfr⟩
      have ho1:=(bc.nil.new (H:=fun _=>bL.dead) (n:=b2) rfl 4 [[.emp 1,.emp 1,.emp 1,gi 0]]).NB hu0 hfr
      have c0:=ho1.head.cells
      have k0:=ho1.head.lT
      simp (disch:=omega) only [↓wr,↓reduceIte,wq,ah,ag,aj,ab,ae,af,ai,isNil,Nat.reduceEqDiff,Nat.reduceAdd,Nat.reduceLT,Nat.reduceLeDiff,Int.reduceNeg,Int.reduceToNat,reduceCtorEq,aw,encS,c0,k0]
      intro b8 hb8
      have ho2:=ho1.new hb8 4 [[u0,.emp 1,.emp 1,gi 0]]
      try simp (disch:=omega) only [↓wr,↓reduceIte,wq,ah,ag,aj,ab,ae,af,ai,isNil,Nat.reduceEqDiff,Nat.reduceAdd,Nat.reduceLT,Nat.reduceLeDiff,Int.reduceNeg,Int.reduceToNat,reduceCtorEq,aw,encS,c0,k0,set_set]
      intro b9 hb9
      have hb98:=(cF hb9 cy).1
      have hb9:=(cF (cF hb9 cy).2 cy).2
      have ho3:=(((ho2.fresh (n:=b9) (o:=.map [] 0) (by simp only[View.set,if_neg hb98]; exact hb9)).emp (k:=1) (sz:=1)).emp (k:=1) (sz:=1)).perm Ho.symm
      try simp (disch:=omega) only [↓wr,↓reduceIte,wq,ah,ag,aj,ab,ae,af,ai,isNil,Nat.reduceEqDiff,Nat.reduceAdd,Nat.reduceLT,Nat.reduceLeDiff,Int.reduceNeg,Int.reduceToNat,reduceCtorEq,aw,encS,c0,k0,set_set]
      refine bw.up g.rules.length (N5 g p q b2 b8 b9 u0) ?_ ?_
      · refine ⟨⟨.emp 1,.emp 1,rfl,by simp[bK],by simp[bK],by rw[set_set]; exact ho3,[],0,by simp[View.set,bP],trivial⟩,rfl,rfl,rfl,rfl,rfl,rfl,rfl,rfl,rfl⟩
      clear ho1 ho2 ho3 hb8 hb9 hb98
      rintro i k T H2 hk ⟨⟨u1,u3,t7,hin,holen,ho,mm,cc,h9,hm9⟩,t1,t2,t5,t6,t8,t9,t41,t42,t43⟩
      simp (disch:=omega) only [↓wr,↓reduceIte,wq,ah,ag,aj,ab,ae,af,ai,isNil,Nat.reduceEqDiff,Nat.reduceAdd,Nat.reduceLT,Nat.reduceLeDiff,Int.reduceNeg,Int.reduceToNat,reduceCtorEq,qR,t1,t2,t5,t6,t7,t8,t9,t41,t42,t43,aw]
      refine av.dec (fun hc=>?_) (fun hc=>?_)
      · have hg2:g.rules[i]?=some (g.rules[i]'(by omega)):=List.getElem?_eq_getElem (by omega)
        have hmem:g.rules[i]'(by omega)∈g.rules:=List.getElem_mem _
        have htk:g.rules.take (i+1)=g.rules.take i ++ [g.rules[i]'(by omega)]:=by rw[List.take_add_one,hg2]; rfl
        generalize g.rules[i]'(by omega)=r at hg2 hmem htk
        obtain ⟨hl1,hl2,hl3,hr6,hsy⟩:=hf.sN hg hmem
        have hqs:q[r.left.toNat]?=some (q[r.left.toNat]'(by omega)):=List.getElem?_eq_getElem (by omega)
        have hqd:q.getD r.left.toNat false=q[r.left.toNat]'(by omega):=by simp[List.getD_eq_getElem?_getD,hqs]
        generalize q[r.left.toNat]'(by omega)=qs at hqs hqd
        simp (disch:=omega) only [↓wr,↓reduceIte,wq,ah,ag,aj,ab,ae,af,ai,isNil,Nat.reduceEqDiff,Nat.reduceAdd,Nat.reduceLT,Nat.reduceLeDiff,Int.reduceNeg,Int.reduceToNat,reduceCtorEq,t1,t2,t5,t6,t7,t8,t9,t41,t42,t43,aU,encI,List.getElem?_map,hg2]
        intro b11 hb11
        have hoA:=ho.new hb11 3 [aU r]
        have n911:b9≠b11:=by rintro rfl; rw[h9] at hb11; simp at hb11
        try simp (disch:=omega) only [↓wr,↓reduceIte,wq,ah,ag,aj,ab,ae,af,ai,isNil,Nat.reduceEqDiff,Nat.reduceAdd,Nat.reduceLT,Nat.reduceLeDiff,Int.reduceNeg,Int.reduceToNat,reduceCtorEq,t1,t2,t5,t6,t7,t8,t9,t41,t42,t43,aU,encI,bM,List.getElem?_map,hqs,set_set]
        have hskip:∀ (T2:Env) (H':View),bz p q r=false→H'=H2.set b11 (.arr 3 [aU r])→T2 7=u3→T2 1=.aO (aw g) 0→T2 2=.ptr b2 0 0→T2 5=bM p→T2 6=bM q→T2 8=.ptr b8 0 0→T2 9=.mp b9→T2 41=.aV (g.rules.map aU)→T2 42=gi g.rules.length→T2 43=gi ((i:Int)+1) →
            ∃ k',k' < k∧Dj g.rules.length k' (N5 g p q b2 b8 b9 u0) T2 H':=by
          intro T2 H' hkr hH' a7 a1 a2 a5 a6 a8 a9 a41 a42 a43
          have e1:bK p q (g.rules.take (i+1))=bK p q (g.rules.take i):=by rw[htk,rf,if_neg (by simp[hkr])]
          have e2:b6 p q (g.rules.take (i+1)) 0=b6 p q (g.rules.take i) 0:=by rw[htk,jD]; simp[b6,hkr]
          refine bt hk (by omega) ⟨⟨u1,u3,a7,by rw[e1]; exact hin,by rw[e1]; omega,by rw[e1,e2,hH']; exact hoA.tail,mm,cc,by rw[hH']; simp[View.set,n911,h9],by rw[e1]; exact hm9⟩,a1,a2,a5,a6,a8,a9,a41,a42,by rw[a43]; rfl⟩
        cases qs with
        | false =>
          simp (disch:=omega) only [↓wr,↓reduceIte,wq,ah,ag,aj,ab,ae,af,ai,isNil,Nat.reduceEqDiff,Nat.reduceAdd,Nat.reduceLT,Nat.reduceLeDiff,Int.reduceNeg,Int.reduceToNat,reduceCtorEq,t1,t2,t5,t6,t7,t8,t9,t41,t42,t43]
          refine hskip _ _ (by rw[bz,hqd]; rfl) ?_ ?_ ?_ ?_ ?_ ?_ ?_ ?_ ?_ ?_ ?_
          all_goals first | exact t7 | exact t1 | exact t2 | exact t5 | exact t6 | exact t8 | exact t9 | exact t41 | exact t42 | rfl | (rw[set_set]; rfl)
        | true =>
          simp (disch:=omega) only [↓wr,↓reduceIte,wq,ah,ag,aj,ab,ae,af,ai,isNil,Nat.reduceEqDiff,Nat.reduceAdd,Nat.reduceLT,Nat.reduceLeDiff,Int.reduceNeg,Int.reduceToNat,reduceCtorEq,t1,t2,t5,t6,t7,t8,t9,t41,t42,t43,aU,encI,bM]
          refine aE.pure (vp r p (hg.aG r hmem).2.2.1 (fun s hs'=>⟨(hsy s hs').1,fun h=>by rw[hpl]; exact (hsy s hs').2 h⟩)) (by kernel_rfl) ?_
          simp (disch:=omega) only [↓wr,↓reduceIte,wq,ah,ag,aj,ab,ae,af,ai,isNil,Nat.reduceEqDiff,Nat.reduceAdd,Nat.reduceLT,Nat.reduceLeDiff,Int.reduceNeg,Int.reduceToNat,reduceCtorEq,t1,t2,t5,t6,t7,t8,t9,t41,t42,t43]
          refine av.split (fun hal=>?_) (fun hal=>?_)
          · simp (disch:=omega) only [↓wr,↓reduceIte,wq,ah,ag,aj,ab,ae,af,ai,isNil,Nat.reduceEqDiff,Nat.reduceAdd,Nat.reduceLT,Nat.reduceLeDiff,Int.reduceNeg,Int.reduceToNat,reduceCtorEq,t1,t2,t5,t6,t7,t8,t9,t41,t42,t43]
            have hkr:bz p q r=true:=by rw[bz,hqd,hal]; rfl
            intro m hm
            try simp (disch:=omega) only [↓wr,↓reduceIte,wq,ah,ag,aj,ab,ae,af,ai,isNil,Nat.reduceEqDiff,Nat.reduceAdd,Nat.reduceLT,Nat.reduceLeDiff,Int.reduceNeg,Int.reduceToNat,reduceCtorEq,t1,t2,t5,t6,t7,t8,t9,t41,t42,t43,dp]
            have hm11:=(cF hm cy).1
            have hm:=(cF (cF hm cy).2 cy).2
            have hoB:=(hoA.fresh (n:=m) (o:=.arr 1 [[gi i]]) (by simp only[View.set,if_neg hm11]; exact hm)).at 2 (by simp)
            have n9m:b9≠m:=by rintro rfl; rw[h9] at hm; simp at hm
            have hkl:(b6 p q (g.rules.take i) 0).length≤40:=by
              rw[jd]
              have h1:=List.length_filter_le (bz p q) (g.rules.take i)
              have h2:(g.rules.take i).length≤i:=List.length_take_le _ _
              omega
            refine dU (by rw[set_set]; exact hoB) (by simp[aP]) (by unfold aN; simp at hkl ⊢; omega) (by unfold aN; simp at hkl ⊢; omega) ?_
            intro u3' H3 ho3 hleft
            have f11:=ho3.is 1 rfl (by simp)
            have f8:=ho3.is 2 rfl (by simp)
            have hleft':Left ((H2.set b11 (.arr 3 [aU r])).set m (.arr 1 [[gi i]])) H3 u3 u3':=by rw[set_set] at hleft; exact hleft
            have f9:H3 b9=.map (vB mm) cc:=hleft'.map (b:=b9) hoB.head (by simp[View.set,n911,n9m,h9])
            have hu1:cT u1=some (ja ((bK p q (g.rules.take i)).map fun x=>g.au.getD x.toNat ⟨#[]⟩)).length:=(ho3.own 3 rfl).len
            simp only[aU,encI] at f11
            have e2:b6 p q (g.rules.take (i+1)) 0=b6 p q (g.rules.take i) 0 ++ [(i:Int)]:=by
              rw[htk,jD]; simp[b6,hkr,show i≤g.rules.length by omega]
            have e1:bK p q (g.rules.take (i+1))=dd (bK p q (g.rules.take i)) r:=by rw[htk,rf,if_pos hkr]
            generalize bK p q (g.rules.take i)=o at *
            generalize b6 p q (g.rules.take i) 0=kl at *
            simp (disch:=omega) only [↓wr,↓reduceIte,wq,ah,ag,aj,ab,ae,af,ai,isNil,Nat.reduceEqDiff,Nat.reduceAdd,Nat.reduceLT,Nat.reduceLeDiff,Int.reduceNeg,Int.reduceToNat,reduceCtorEq,t1,t2,t5,t6,t8,t9,t41,t42,t43,f11,f8]
            refine Mp (kt:=3) (et:=3) (z:=gi 0) (by kernel_rfl) (by kernel_rfl) (jH .i64 Tryz.underlying3) (id:=b9) (c:=cc) (m:=mm) (k:=r.left) (by simp (disch:=omega) only [↓wr,↓reduceIte,wq,ah,ag,aj,ab,ae,af,ai,isNil,Nat.reduceEqDiff,Nat.reduceAdd,Nat.reduceLT,Nat.reduceLeDiff,Int.reduceNeg,Int.reduceToNat,reduceCtorEq,t9]) (by simp (disch:=omega) only [↓wr,↓reduceIte,wq,ah,ag,aj,ab,ae,af,ai,isNil,Nat.reduceEqDiff,Nat.reduceAdd,Nat.reduceLT,Nat.reduceLeDiff,Int.reduceNeg,Int.reduceToNat,reduceCtorEq]) f9 ?_
            rw[hm9.get,qN]
            have hob:o.length≤40:=by omega
            by_cases hx:r.left∈o
            · have e1':dd o r=o:=by rw[dd,if_pos hx]
              rw[if_pos hx]
              simp (disch:=omega) only [↓wr,↓reduceIte,wq,ah,ag,aj,ab,ae,af,ai,isNil,Nat.reduceEqDiff,Nat.reduceAdd,Nat.reduceLT,Nat.reduceLeDiff,Int.reduceNeg,Int.reduceToNat,reduceCtorEq,t1,t2,t5,t6,t8,t9,t41,t42,t43,Option.isSome_some]
              have ho4:=(((ho3.at 1 (by simp)).tail).perm (.swap _ _ _))
              refine bt hk (by omega) ⟨⟨u1,u3',rfl,by rw[e1,e1']; exact hin,by rw[e1,e1']; omega,?_,mm,cc,f9,by rw[e1,e1']; exact hm9⟩,t1,t2,t5,t6,t8,t9,t41,t42,rfl⟩
              rw[e1,e1',e2]
              simp only[List.map_append,List.map_cons,List.map_nil]
              exact ho4
            · have e1':dd o r=o ++ [r.left]:=by rw[dd,if_neg hx]
              rw[if_neg hx]
              have hgn:g.au[r.left.toNat]?=some (g.au[r.left.toNat]'(by omega)):=List.getElem?_eq_getElem (by omega)
              have hgnd:g.au.getD r.left.toNat ⟨#[]⟩=g.au[r.left.toNat]'(by omega):=by simp[List.getD_eq_getElem?_getD,hgn]
              generalize g.au[r.left.toNat]'(by omega)=nm at hgn hgnd
              simp (disch:=omega) only [↓wr,↓reduceIte,wq,ah,ag,aj,ab,ae,af,ai,isNil,Nat.reduceEqDiff,Nat.reduceAdd,Nat.reduceLT,Nat.reduceLeDiff,Int.reduceNeg,Int.reduceToNat,reduceCtorEq,t1,t2,t5,t6,t8,t9,t41,t42,t43,Option.isSome_none,f11,f8,hu1,List.length_map]
              refine sV (kt:=3) (et:=3) (by kernel_rfl) (jH .i64 Tryz.underlying3) (id:=b9) (c:=cc) (m:=mm) (k:=r.left) (v:=gi o.length) (by simp (disch:=omega) only [↓wr,↓reduceIte,wq,ah,ag,aj,ab,ae,af,ai,isNil,Nat.reduceEqDiff,Nat.reduceAdd,Nat.reduceLT,Nat.reduceLeDiff,Int.reduceNeg,Int.reduceToNat,reduceCtorEq,t9]) (by simp (disch:=omega) only [↓wr,↓reduceIte,wq,ah,ag,aj,ab,ae,af,ai,isNil,Nat.reduceEqDiff,Nat.reduceAdd,Nat.reduceLT,Nat.reduceLeDiff,Int.reduceNeg,Int.reduceToNat,reduceCtorEq]) (by simp (disch:=omega) only [↓wr,↓reduceIte,wq,ah,ag,aj,ab,ae,af,ai,isNil,Nat.reduceEqDiff,Nat.reduceAdd,Nat.reduceLT,Nat.reduceLeDiff,Int.reduceNeg,Int.reduceToNat,reduceCtorEq]) f9 ?_
              intro c'
              have n89:b8≠b9:=zw ho3 2 rfl f9
              have n119:b11≠b9:=zw ho3 1 rfl f9
              simp (disch:=omega) only [↓wr,↓reduceIte,wq,ah,ag,aj,ab,ae,af,ai,isNil,Nat.reduceEqDiff,Nat.reduceAdd,Nat.reduceLT,Nat.reduceLeDiff,Int.reduceNeg,Int.reduceToNat,reduceCtorEq,t1,t2,t5,t6,t8,t9,t41,t42,t43,f11,f8,n89,n119,aw,encS,List.getElem?_map,hgn]
              intro m2 hm2
              have hm29:=(cF hm2 (by simp)).1
              have hm2:=(cF hm2 (by simp)).2
              have ho5:=((ho3.wa f9 (o:=.map (vB (bS r.left (gi o.length) cc mm)) c')).fresh (n:=m2) (o:=.arr 1 [[gs nm]]) (by simp only[View.set,if_neg hm29]; exact hm2)).at 3 (by simp)
              try simp (disch:=omega) only [↓wr,↓reduceIte,wq,ah,ag,aj,ab,ae,af,ai,isNil,Nat.reduceEqDiff,Nat.reduceAdd,Nat.reduceLT,Nat.reduceLeDiff,Int.reduceNeg,Int.reduceToNat,reduceCtorEq,t1,t2,t5,t6,t8,t9,t41,t42,t43,dp]
              refine dU ho5 (by simp[aP]) (by unfold aN; simp; omega) (by unfold aN; simp; omega) ?_
              intro u1' H5 ho6 hleft2
              have c1:=ho6.head.cells
              have k1:=ho6.head.lT
              have f8':=ho6.is 3 rfl (by simp)
              have f9':=hleft2.map (b:=b9) (es:=vB (bS r.left (gi o.length) cc mm)) (c:=c') ho5.head (by simp[View.set,Ne.symm hm29])
              have n89':b9≠b8:=n89.symm
              simp (disch:=omega) only [↓wr,↓reduceIte,wq,ah,ag,aj,ab,ae,af,ai,isNil,Nat.reduceEqDiff,Nat.reduceAdd,Nat.reduceLT,Nat.reduceLeDiff,Int.reduceNeg,Int.reduceToNat,reduceCtorEq,t1,t2,t5,t6,t8,t9,t41,t42,t43,f8',c1,k1]
              have ho7:=(ho6.at 3 (by simp)).put (es':=[[u0,u1',.emp 1,gi 0]]) rfl rfl
              have ho8:=(((ho7.at 3 (by simp)).tail).perm (.cons _ (.swap _ _ _)))
              refine bt hk (by omega) ⟨⟨u1',u3',rfl,?_,?_,?_,_,c',(by simp only[View.set,if_neg n89']; exact f9'),?_⟩,t1,t2,t5,t6,t8,t9,t41,t42,rfl⟩
              · rw[e1,e1']; intro x hx'; rcases List.mem_append.1 hx' with h | h
                · exact hin x h
                · simp at h; subst h; exact ⟨hl2,hl3⟩
              · rw[e1,e1']; simp; omega
              · rw[e1,e1',e2]
                simp only[List.map_append,List.map_cons,List.map_nil,hgnd]
                exact ho8
              · rw[e1,e1',zR,Int.zero_add,← BT hx]
                exact hm9.put r.left (o.length:Int) cc
          · simp (disch:=omega) only [↓wr,↓reduceIte,wq,ah,ag,aj,ab,ae,af,ai,isNil,Nat.reduceEqDiff,Nat.reduceAdd,Nat.reduceLT,Nat.reduceLeDiff,Int.reduceNeg,Int.reduceToNat,reduceCtorEq,t1,t2,t5,t6,t7,t8,t9,t41,t42,t43]
            refine hskip _ _ (by rw[bz,hqd,hal]; rfl) ?_ ?_ ?_ ?_ ?_ ?_ ?_ ?_ ?_ ?_ ?_
            all_goals first | exact t7 | exact t1 | exact t2 | exact t5 | exact t6 | exact t8 | exact t9 | exact t41 | exact t42 | rfl | (rw[set_set]; rfl)
      · rw[List.take_of_length_le (by omega)] at ho hin holen hm9
        have hkl40:(b6 p q g.rules 0).length≤40:=by
          rw[jd]; have h1:=List.length_filter_le (bz p q) g.rules; omega
        have hkg:=qB p q g.rules 0
        have hkln:=jd p q g.rules 0
        have hrg:j7 g (dh (bK p q g.rules)) p q=⟨g.ax,(bK p q g.rules).map fun x=>g.au.getD x.toNat ⟨#[]⟩,(g.rules.filter (bz p q)).map (bb (dh (bK p q g.rules))),dh (bK p q g.rules) g.start⟩:=rfl
        rw[hrg,if_pos rfl]
        clear hrg
        generalize bK p q g.rules=o at *
        generalize b6 p q g.rules 0=kl at *
        have hob:o.length≤40:=by omega
        have hu3:cT u3=some (bN kl).length:=(ho.own 1 rfl).len
        simp (disch:=omega) only [↓wr,↓reduceIte,wq,ah,ag,aj,ab,ae,af,ai,isNil,Nat.reduceEqDiff,Nat.reduceAdd,Nat.reduceLT,Nat.reduceLeDiff,Int.reduceNeg,Int.reduceToNat,reduceCtorEq,t1,t2,t5,t6,t7,t8,t9,hu3,List.length_map]
        refine bw.up kl.length (PG g p q b2 b8 b9 u0 u1 u3 o kl mm cc) ?_ ?_
        · refine ⟨⟨.emp 1,[],by simp,?_,h9⟩,t1,t2,t7,t8,t9,t7,rfl,rfl⟩
          exact (ho.emp (k:=1) (sz:=3)).perm (pF [(.sl b8 0 1 4,4,[[u0,u1,.emp 1,gi 0]]),(u3,1,bN kl),(u1,1,ja (o.map fun x=>g.au.getD x.toNat ⟨#[]⟩)),(u0,3,g.ax.map cp),(.emp 1,3,[]),(.sl b2 0 1 4,4,[[.emp 1,.emp 1,.emp 1,gi 0]])] 4 (by simp)).symm
        clear ho h9 t1 t2 t5 t6 t7 t8 t9 t41 t42 t43
        rintro i k T H2 hk ⟨⟨u2,bs,hbs,ho,h9⟩,t1,t2,t7,t8,t9,t91,t92,t93⟩
        simp (disch:=omega) only [↓wr,↓reduceIte,wq,ah,ag,aj,ab,ae,af,ai,isNil,Nat.reduceEqDiff,Nat.reduceAdd,Nat.reduceLT,Nat.reduceLeDiff,Int.reduceNeg,Int.reduceToNat,reduceCtorEq,qI,t1,t2,t7,t8,t9,t91,t92,t93]
        refine av.dec (fun hc=>?_) (fun hc=>?_)
        · obtain ⟨n3,e3,hn3⟩:=(ho.own 1 rfl).sl (by simp; omega)
          rw[List.length_map] at e3
          subst e3
          obtain ⟨m,hm1,hm2,hm3⟩:=hkg i (by omega)
          have hbg:=jf (show i < kl.length by omega)
          rw[Int.zero_add] at hm1
          have hki:kl[i]'(by omega)=(m:Int):=by
            rw[List.getElem?_eq_getElem (show i < kl.length by omega)] at hm1; simpa using hm1
          rw[hki] at hbg
          have hg2:g.rules[m]?=some (g.rules[m]'hm3):=List.getElem?_eq_getElem hm3
          have hmem:g.rules[m]'hm3∈g.rules:=List.getElem_mem _
          have htk:(g.rules.filter (bz p q)).take (i+1)=(g.rules.filter (bz p q)).take i ++ [g.rules[m]'hm3]:=by
            rw[List.take_add_one,← hm2,hg2]; rfl
          generalize g.rules[m]'hm3=r at hg2 hmem htk
          obtain ⟨hl1,hl2,hl3,hr6,hsy⟩:=hf.sN hg hmem
          simp (disch:=omega) only [↓wr,↓reduceIte,wq,ah,ag,aj,ab,ae,af,ai,isNil,Nat.reduceEqDiff,Nat.reduceAdd,Nat.reduceLT,Nat.reduceLeDiff,Int.reduceNeg,Int.reduceToNat,reduceCtorEq,t1,t2,t7,t8,t9,t91,t92,t93,hn3,hbg,List.length_map,aw,aU,encI,List.getElem?_map,hg2]
          refine ⟨by omega,by omega,?_⟩
          intro b16 hb16
          have hoA:=ho.new hb16 3 [aU r]
          have n916:b9≠b16:=by rintro rfl; rw[h9] at hb16; simp at hb16
          try simp (disch:=omega) only [↓wr,↓reduceIte,wq,ah,ag,aj,ab,ae,af,ai,isNil,Nat.reduceEqDiff,Nat.reduceAdd,Nat.reduceLT,Nat.reduceLeDiff,Int.reduceNeg,Int.reduceToNat,reduceCtorEq,t1,t2,t7,t8,t9,t91,t92,t93,set_set]
          refine wP (kt:=3) (et:=3) (z:=gi 0) (by kernel_rfl) (by kernel_rfl) (jH .i64 Tryz.underlying3) (id:=b9) (c:=cc) (m:=mm) (k:=r.left) (by simp (disch:=omega) only [↓wr,↓reduceIte,wq,ah,ag,aj,ab,ae,af,ai,isNil,Nat.reduceEqDiff,Nat.reduceAdd,Nat.reduceLT,Nat.reduceLeDiff,Int.reduceNeg,Int.reduceToNat,reduceCtorEq,t9]) (by simp (disch:=omega) only [↓wr,↓reduceIte,wq,ah,ag,aj,ab,ae,af,ai,isNil,Nat.reduceEqDiff,Nat.reduceAdd,Nat.reduceLT,Nat.reduceLeDiff,Int.reduceNeg,Int.reduceToNat,reduceCtorEq]) (by simp[View.set,n916,h9]) ?_
          have hgt:∀ x,(getM mm x).getD (gi 0)=gi (dh o x):=fun x=>by
            rw[hm9.get,dh]; cases dq (iz o 0) x <;> rfl
          rw[hgt]
          simp (disch:=omega) only [↓wr,↓reduceIte,wq,ah,ag,aj,ab,ae,af,ai,isNil,Nat.reduceEqDiff,Nat.reduceAdd,Nat.reduceLT,Nat.reduceLeDiff,Int.reduceNeg,Int.reduceToNat,reduceCtorEq,t1,t2,t7,t8,t9,t91,t92,t93]
          refine aE.GB (JD r.right (by omega) _) ?_
          intro v H3 hv hfr
          have hoB:=bc.NB (H:=H2.set b16 (.arr 3 [aU r])) hoA hv (by rw[set_set] at hfr; exact hfr)
          have h9B:H3 b9=.map (vB mm) cc:=by
            rw[(hfr b9 (by simp[View.set,n916,h9])).1]; simp[View.set,n916,h9]
          have cv:=hv.cells
          have kv:=hv.lT
          have lv:=hv.len
          have f16:=hoB.is 1 rfl (by simp)
          simp only[aU,encI] at f16
          simp (disch:=omega) only [↓wr,↓reduceIte,wq,ah,ag,aj,ab,ae,af,ai,isNil,Nat.reduceEqDiff,Nat.reduceAdd,Nat.reduceLT,Nat.reduceLeDiff,Int.reduceNeg,Int.reduceToNat,reduceCtorEq,t1,t2,t7,t8,t9,t91,t92,t93,f16,cv,kv]
          intro b17 hb17
          have hoC:=hoB.new hb17 3 [[gi (dh o r.left),v,gi r.prec]]
          have n917:b9≠b17:=by rintro rfl; rw[h9B] at hb17; simp at hb17
          try simp (disch:=omega) only [↓wr,↓reduceIte,wq,ah,ag,aj,ab,ae,af,ai,isNil,Nat.reduceEqDiff,Nat.reduceAdd,Nat.reduceLT,Nat.reduceLeDiff,Int.reduceNeg,Int.reduceToNat,reduceCtorEq,t1,t2,t7,t8,t9,t91,t92,t93,cv,kv,lv,set_set,List.length_map]
          generalize hL:((V.sl b8 0 1 4,4,[[u0,u1,u2,gi 0]]) :: (V.sl n3 0 kl.length 1,1,bN kl) ::
              (u1,1,ja (o.map fun x=>g.au.getD x.toNat ⟨#[]⟩)) :: (u0,3,g.ax.map cp) :: (u2,3,fM bs) :: (V.sl b2 0 1 4,4,[[V.emp 1,V.emp 1,V.emp 1,gi 0]]) :: kx bs:List er)=L at hoC
          refine bw.up r.right.length (PD g b2 b8 b9 b16 b17 (.sl n3 0 kl.length 1) v o kl mm cc r L i) ?_ ?_
          · exact ⟨by rw[set_set]; exact hoC,by simp[View.set,n917,h9B],t1,t2,t7,t8,t9,t91,t92,t93,rfl,rfl,rfl,rfl⟩
          clear hoA hoB hoC hb16 hb17 h9 h9B f16 hv hfr t1 t2 t7 t8 t9 t91 t92 t93
          rintro k k2 T H3 hk2 ⟨hoC,h9,t1,t2,t7,t8,t9,t91,t92,t93,t17,t113,t114,t115⟩
          have f17:=hoC.is 0 rfl (by simp)
          simp (disch:=omega) only [↓wr,↓reduceIte,wq,ah,ag,aj,ab,ae,af,ai,isNil,Nat.reduceEqDiff,Nat.reduceAdd,Nat.reduceLT,Nat.reduceLeDiff,Int.reduceNeg,Int.reduceToNat,reduceCtorEq,q7,t1,t2,t7,t8,t9,t91,t92,t93,t17,t113,t114,t115]
          refine av.dec (fun hcc=>?_) (fun hcc=>?_)
          · have hgs:r.right[k]?=some (r.right[k]'(by omega)):=List.getElem?_eq_getElem (by omega)
            have hms:r.right[k]'(by omega)∈r.right:=List.getElem_mem _
            have hrl:(bb (dh o) r).right.length=r.right.length:=by simp[bb]
            have hts:(bb (dh o) r).right.take (k+1)=(bb (dh o) r).right.take k ++ [if r.right[k]'(by omega) < 0 then -1 - dh o (-1 - r.right[k]'(by omega)) else r.right[k]'(by omega)]:=by
              rw[List.take_add_one]; simp[bb,hgs]
            have hdr:=eD (show k < r.right.length by omega)
            generalize r.right[k]'(by omega)=s at hgs hms hts hdr
            obtain ⟨⟨s1,s2⟩,s3⟩:=hsy s hms
            have hbd:=Nv o (-1 - s)
            rw[hdr] at hoC
            have hlen:(((bb (dh o) r).right.take k ++ s :: r.right.drop (k+1)).map fun x=>[gi x]).length=r.right.length:=by simp; omega
            obtain ⟨nv,ev,hnv⟩:=(hoC.own 1 rfl).sl (by rw[hlen]; omega)
            rw[hlen] at ev
            subst ev
            have hlt:k < ((bb (dh o) r).right.take k ++ s :: r.right.drop (k+1)).length:=by simp; omega
            have hbg2:=jf hlt
            have hel:((bb (dh o) r).right.take k ++ s :: r.right.drop (k+1))[k]'hlt=s:=by
              rw[List.getElem_append_right (by simp; omega)]
              simp[show k - min k r.right.length=0 by omega,hrl]
            rw[hel] at hbg2
            simp (disch:=omega) only [↓wr,↓reduceIte,wq,ah,ag,aj,ab,ae,af,ai,isNil,Nat.reduceEqDiff,Nat.reduceAdd,Nat.reduceLT,Nat.reduceLeDiff,Int.reduceNeg,Int.reduceToNat,reduceCtorEq,t1,t2,t7,t8,t9,t91,t92,t93,t17,t113,t114,t115,hnv,hbg2,List.length_map]
            refine ⟨by omega,hlt,?_⟩
            have hlk:((bb (dh o) r).right.take k).length=k:=by rw[List.length_take]; omega
            have nv9:nv≠b9:=zw hoC 1 rfl h9
            refine av.dec (fun hneg=>?_) (fun hneg=>?_)
            · rw[if_pos hneg] at hts
              simp (disch:=omega) only [↓wr,↓reduceIte,wq,ah,ag,aj,ab,ae,af,ai,isNil,Nat.reduceEqDiff,Nat.reduceAdd,Nat.reduceLT,Nat.reduceLeDiff,Int.reduceNeg,Int.reduceToNat,reduceCtorEq,t1,t2,t7,t8,t9,t91,t92,t93,t17,t113,t114,t115,f17]
              refine wP (kt:=3) (et:=3) (z:=gi 0) (by kernel_rfl) (by kernel_rfl) (jH .i64 Tryz.underlying3) (id:=b9) (c:=cc) (m:=mm) (k:=-1 - s) (by simp (disch:=omega) only [↓wr,↓reduceIte,wq,ah,ag,aj,ab,ae,af,ai,isNil,Nat.reduceEqDiff,Nat.reduceAdd,Nat.reduceLT,Nat.reduceLeDiff,Int.reduceNeg,Int.reduceToNat,reduceCtorEq,t9]) (by simp (disch:=omega) only [↓wr,↓reduceIte,wq,ah,ag,aj,ab,ae,af,ai,isNil,Nat.reduceEqDiff,Nat.reduceAdd,Nat.reduceLT,Nat.reduceLeDiff,Int.reduceNeg,Int.reduceToNat,reduceCtorEq]) h9 ?_
              rw[hgt]
              simp (disch:=omega) only [↓wr,↓reduceIte,wq,ah,ag,aj,ab,ae,af,ai,isNil,Nat.reduceEqDiff,Nat.reduceAdd,Nat.reduceLT,Nat.reduceLeDiff,Int.reduceNeg,Int.reduceToNat,reduceCtorEq,t1,t2,t7,t8,t9,t91,t92,t93,t17,t113,t114,t115,f17,hnv,hbg2,List.length_map]
              refine ⟨by omega,hlt,?_⟩
              have hoD:=((hoC.at 1 (by simp)).put (es':=((((bb (dh o) r).right.take k ++ s :: r.right.drop (k+1)).map fun x=>[gi x]).set k [gi (-1 - dh o (-1 - s))])) (by simp) (by rw[hlen])).perm (.swap _ _ _)
              refine bt hk2 (by omega) ⟨?_,by simp only[View.set,if_neg nv9.symm]; exact h9,t1,t2,t7,t8,t9,t91,t92,t93,t17,t113,t114,rfl⟩
              rw[ints_set,AP hlk] at hoD
              rw[hts,List.append_assoc]
              rw[ints_set,AP hlk]
              exact hoD
            · rw[if_neg hneg] at hts
              simp (disch:=omega) only [↓wr,↓reduceIte,wq,ah,ag,aj,ab,ae,af,ai,isNil,Nat.reduceEqDiff,Nat.reduceAdd,Nat.reduceLT,Nat.reduceLeDiff,Int.reduceNeg,Int.reduceToNat,reduceCtorEq,t1,t2,t7,t8,t9,t91,t92,t93,t17,t113,t114,t115]
              refine bt hk2 (by omega) ⟨?_,h9,t1,t2,t7,t8,t9,t91,t92,t93,t17,t113,t114,rfl⟩
              rw[hts,List.append_assoc]
              exact hoC
          · rw[List.take_of_length_le (by simp[bb]; omega),List.drop_eq_nil_of_le (by omega),List.append_nil] at hoC
            subst hL
            have f8:=hoC.is 3 rfl (by simp)
            have cv:=(hoC.own 1 rfl).cells
            have kv:=(hoC.own 1 rfl).lT
            have hbl:(fM bs).length≤40:=by
              have h1:=congrArg List.length hbs
              simp only[List.length_map,List.length_take] at h1
              simp only[fM,List.length_map]
              omega
            simp (disch:=omega) only [↓wr,↓reduceIte,wq,ah,ag,aj,ab,ae,af,ai,isNil,Nat.reduceEqDiff,Nat.reduceAdd,Nat.reduceLT,Nat.reduceLeDiff,Int.reduceNeg,Int.reduceToNat,reduceCtorEq,t1,t2,t7,t8,t9,t91,t92,t93,t17,t113,t114,t115,f8,f17,cv,kv]
            intro m hm
            have n9m:b9≠m:=by rintro rfl; rw[h9] at hm; simp at hm
            try simp (disch:=omega) only [↓wr,↓reduceIte,wq,ah,ag,aj,ab,ae,af,ai,isNil,Nat.reduceEqDiff,Nat.reduceAdd,Nat.reduceLT,Nat.reduceLeDiff,Int.reduceNeg,Int.reduceToNat,reduceCtorEq,t1,t2,t7,t8,t9,t91,t92,t93,t17,dp]
            have hoD:=(hoC.fresh (o:=.arr 3 [[gi (dh o r.left),v,gi r.prec]]) hm).at 7 (by simp)
            refine dU hoD (by simp[xh,kv]) (by unfold aN; simp at hbl ⊢; omega) (by unfold aN; simp at hbl ⊢; omega) ?_
            intro u2' H4 hoE hleft
            have cu:=hoE.head.cells
            have ku:=hoE.head.lT
            have f8':=hoE.is 4 rfl (by simp)
            have h9':H4 b9=.map (vB mm) cc:=hleft.map (b:=b9) hoD.head (by simp[View.set,n9m,h9])
            have n98:b9≠b8:=(zw hoE 4 rfl h9').symm
            simp (disch:=omega) only [↓wr,↓reduceIte,wq,ah,ag,aj,ab,ae,af,ai,isNil,Nat.reduceEqDiff,Nat.reduceAdd,Nat.reduceLT,Nat.reduceLeDiff,Int.reduceNeg,Int.reduceToNat,reduceCtorEq,t1,t2,t7,t8,t9,t91,t92,t93,t17,f8',cu,ku]
            have hoF:=(hoE.at 4 (by simp)).put (es':=[[u0,u1,u2',gi 0]]) rfl rfl
            have hoG:=((((hoF.at 2 (by simp)).tail).at 3 (by simp)).tail)
            refine bt hk (by omega) ⟨⟨u2',bs ++ [(v,bb (dh o) r)],?_,?_,by simp only[View.set,if_neg n98]; exact h9'⟩,t1,t2,t7,t8,t9,t91,t92,rfl⟩
            · rw[List.map_append,hbs,htk,List.map_append]; rfl
            · refine hoG.perm (.cons _ ?_)
              simp only[kx,fM,List.map_append,List.map_cons,List.map_nil]
              refine .trans ?_ (pF _ 3 (by simp)).symm
              refine .cons _ ?_
              exact (List.perm_append_singleton (v,1,bN (bb (dh o) r).right) ((.sl n3 0 kl.length 1,1,bN kl) :: (u1,1,ja (o.map fun x=>g.au.getD x.toNat ⟨#[]⟩)) :: (u0,3,g.ax.map cp) :: (.sl b2 0 1 4,4,[[.emp 1,.emp 1,.emp 1,gi 0]]) :: kx bs)).symm
        · rw[List.take_of_length_le (by omega)] at hbs
          have f8:=ho.is 0 rfl (by simp)
          have f2:=ho.is 5 rfl (by simp)
          have n82:b8≠b2:=ho.Jf 0 5 rfl rfl (by omega)
          have c1:=(ho.own 2 rfl).cells
          have k1:=(ho.own 2 rfl).lT
          have c2:=(ho.own 4 rfl).cells
          have k2:=(ho.own 4 rfl).lT
          have hgt:∀ x,(getM mm x).getD (gi 0)=gi (dh o x):=fun x=>by
            rw[hm9.get,dh]; cases dq (iz o 0) x <;> rfl
          simp (disch:=omega) only [↓wr,↓reduceIte,wq,ah,ag,aj,ab,ae,af,ai,isNil,Nat.reduceEqDiff,Nat.reduceAdd,Nat.reduceLT,Nat.reduceLeDiff,Int.reduceNeg,Int.reduceToNat,reduceCtorEq,t1,t2,t7,t8,t9,t91,t92,t93,aw]
          refine wP (kt:=3) (et:=3) (z:=gi 0) (by kernel_rfl) (by kernel_rfl) (jH .i64 Tryz.underlying3) (id:=b9) (c:=cc) (m:=mm) (k:=g.start) (by simp (disch:=omega) only [↓wr,↓reduceIte,wq,ah,ag,aj,ab,ae,af,ai,isNil,Nat.reduceEqDiff,Nat.reduceAdd,Nat.reduceLT,Nat.reduceLeDiff,Int.reduceNeg,Int.reduceToNat,reduceCtorEq,t9]) (by simp (disch:=omega) only [↓wr,↓reduceIte,wq,ah,ag,aj,ab,ae,af,ai,isNil,Nat.reduceEqDiff,Nat.reduceAdd,Nat.reduceLT,Nat.reduceLeDiff,Int.reduceNeg,Int.reduceToNat,reduceCtorEq]) h9 ?_
          rw[hgt]
          simp (disch:=omega) only [↓wr,↓reduceIte,wq,ah,ag,aj,ab,ae,af,ai,isNil,Nat.reduceEqDiff,Nat.reduceAdd,Nat.reduceLT,Nat.reduceLeDiff,Int.reduceNeg,Int.reduceToNat,reduceCtorEq,t1,t2,t7,t8,t9,t91,t92,t93,f8,f2,n82,n82.symm,c0,k0,c1,k1,c2,k2]
          intro h' hh
          have hoA:=ho.put (es':=[[u0,u1,u2,gi (dh o g.start)]]) rfl rfl
          have hoB:=(hoA.at 5 (by simp)).put (es':=[[u0,u1,u2,gi (dh o g.start)]]) rfl rfl
          have hv:h'.view=(H2.set b8 (.arr 4 [[u0,u1,u2,gi (dh o g.start)]])).set b2 (.arr 4 [[u0,u1,u2,gi (dh o g.start)]]):=hh
          rw[← hv] at hoB
          exact G8 (x:=(⟨g.ax,o.map fun x=>g.au.getD x.toNat ⟨#[]⟩,(g.rules.filter (bz p q)).map (bb (dh o)),dh o g.start⟩,kl,0)) (b:=bs) (hoB.own 4 rfl) (hoB.own 3 rfl) (hoB.own 5 rfl) (fun y hy=>hoB.1 y (by
            refine List.mem_cons_of_mem _ (List.mem_cons_of_mem _ (List.mem_cons_of_mem _ (List.mem_cons_of_mem _ (List.mem_cons_of_mem _ (List.mem_cons_of_mem _ ?_)))))
            exact hy)) hbs (hoB.own 2 rfl)
  · rename_i hr
    intro h' hh
    rw[if_neg (by simp[hr])]
    exact uh
theorem GU {l:List Int} {a b:List Bool} {t:Bool} (h:fL a b) (k:dy l a t=true):dy l b t=true:=by
  simp only[dy,List.all_eq_true] at k ⊢
  intro s hs
  have:=k s hs
  by_cases h0:0≤s
  · rw[if_pos h0] at this ⊢; exact this
  · rw[if_neg h0] at this ⊢; exact h.2 _ this
theorem fL.Ip {a b:List Bool} (h:fL a b) (k:fL b a):a=b:=by
  have h1:=h.dS
  have h2:=k.dS
  exact h1.2 (by omega)
def ml (g:an) (t:Bool) (is:List Bool):Prop:=∀ i,is.getD i false=true→∃ r∈g.rules,r.left.toNat=i∧dy r.right is t=true
theorem ml.step {g:an} {t:Bool} {is:List Bool} {r:aM} (h:ml g t is) (hr:r∈g.rules):ml g t (dx t is r):=by
  have hle:fL is (dx t is r):=by
    unfold dx
    split
    · exact .set _ _
    · exact .refl _
  intro i hi
  by_cases e:is.getD i false=true
  · obtain ⟨r',h1,h2,h3⟩:=h i e
    exact ⟨r',h1,h2,GU hle h3⟩
  · unfold dx at hi
    by_cases ha:dy r.right is t=true
    · rw[if_pos ha] at hi
      have:r.left.toNat=i:=by
        refine Classical.byContradiction fun hne=>e ?_
        simp only[List.getD_eq_getElem?_getD,List.getElem?_set,if_neg hne] at hi ⊢
        exact hi
      exact ⟨r,hr,this,GU hle ha⟩
    · rw[if_neg ha] at hi; exact absurd hi e
theorem ml.fold {g:an} {t:Bool} : ∀ (l:List aM) (is:List Bool),(∀ r∈l,r∈g.rules)→ml g t is→ml g t (l.foldl (dx t) is)
  | [],is,_,h=>h
  | r :: l,is,hl,h=>ml.fold l _ (fun x hx=>hl x (by simp[hx])) (h.step (hl r (by simp)))
theorem ml.iter {g:an} {t:Bool} : ∀ (n:Nat) (is:List Bool),ml g t is→ml g t (iter (iH g t) n is)
  | 0,_,h=>h
  | n+1,is,h=>ml.iter n _ (ml.fold g.rules is (fun _ h=>h) h)
theorem Hh (g:an) (t:Bool):ml g t (aH g t):=by
  unfold aH
  split
  · refine ml.iter _ _ ?_
    intro i hi
    simp only[bQ,List.getD_eq_getElem?_getD,List.getElem?_replicate] at hi
    split at hi <;> simp at hi
  · intro i hi; simp at hi
theorem GC (is:List Bool) (s:Int):fL is (mark is s):=by
  unfold mark
  split
  · exact .set _ _
  · exact .refl _
theorem yn:∀ (l:List Int) (is:List Bool),fL is (l.foldl mark is)
  | [],is=>.refl _
  | s :: l,is=>(GC is s).trans (yn l _)
theorem Ev (p is:List Bool) (r:aM):fL is (eQ p is r):=by
  unfold eQ
  split
  · exact yn _ _
  · exact .refl _
theorem D0 (p:List Bool):∀ (l:List aM) (is:List Bool),fL is (l.foldl (eQ p) is)
  | [],is=>.refl _
  | r :: l,is=>(Ev p is r).trans (D0 p l _)
theorem BP {p:List Bool} : ∀ {l:List aM} {is:List Bool},l.foldl (eQ p) is=is→∀ r∈l,eQ p is r=is
  | [],_,_,_,h=>by simp at h
  | r :: l,is,h,x,hx=>by
    rw[List.foldl_cons] at h
    have h1:=D0 p l (eQ p is r)
    rw[h] at h1
    have h2:=(h1.Ip (Ev p is r))
    rcases List.mem_cons.1 hx with rfl | hx
    · exact h2
    · rw[h2] at h; exact BP h x hx
theorem Cf:∀ {l:List Int} {is:List Bool},l.foldl mark is=is→∀ s∈l,mark is s=is
  | [],_,_,_,h=>by simp at h
  | r :: l,is,h,x,hx=>by
    rw[List.foldl_cons] at h
    have h1:=yn l (mark is r)
    rw[h] at h1
    have h2:=(h1.Ip (GC is r))
    rcases List.mem_cons.1 hx with rfl | hx
    · exact h2
    · rw[h2] at h; exact Cf h x hx
theorem BQ {g:an} (hr:bH g=true):mg g (aH g true) (bB g)=bB g∧fL ((bQ g).set g.start.toNat true) (bB g):=by
  have hf:=bI hr
  have h:=qV (qh (aH g true)) g.rules 16 ((bQ g).set g.start.toNat true) (by have:=hf.au; simp[bQ]; omega)
  rw[FU,Kl hr] at h
  exact h
theorem xA {g:an} (hr:bH g=true):(bB g).getD g.start.toNat false=true:=by
  have hf:=bI hr
  refine (BQ hr).2.2 _ ?_
  have h3:=hf.jo
  have h4:=hf.start
  simp only[List.getD_eq_getElem?_getD]
  rw[List.getElem?_set_self (by simp[bQ]; omega)]
  rfl
theorem yW {g:an} (hr:bH g=true) {r:aM} (hm:r∈g.rules) (hk:bz (aH g true) (bB g) r=true) {s:Int} (hs:s∈r.right) (hn:s < 0):(bB g).getD (-1 - s).toNat false=true:=by
  have hf:=bI hr
  have h1:=BP (BQ hr).1 r hm
  unfold eQ at h1
  rw[bz] at hk
  rw[if_pos hk] at h1
  have h2:=Cf h1 s hs
  unfold mark at h2
  rw[if_pos hn] at h2
  rw[← h2]
  have hl:=nk hr
  have:=hf.neg hm hs hn
  simp only[List.getD_eq_getElem?_getD]
  rw[List.getElem?_set_self (by omega)]
  rfl
theorem IZ {g:an} (hr:bH g=true) {x:Int} (h0:0≤x) (hp:(aH g true).getD x.toNat false=true) (hq:(bB g).getD x.toNat false=true):x∈bK (aH g true) (bB g) g.rules:=by
  obtain ⟨r,h1,h2,h3⟩:=Hh g true _ hp
  have hf:=bI hr
  have h4:=hf.left r h1
  have:r.left=x:=by omega
  refine Dm.2 ⟨r,h1,?_,this⟩
  rw[bz,this,hq,h3]; rfl
theorem Ik (g:an):(if bH g=true then
    if (aH g true).getD g.start.toNat false=true then (j7 g (dh (bK (aH g true) (bB g) g.rules)) (aH g true) (bB g),b6 (aH g true) (bB g) g.rules 0,0)
    else (qC,[],9)
  else (qC,[],1))=eW g:=by
  unfold eW
  by_cases hr:bH g=true
  · rw[if_pos hr,if_pos hr]
    by_cases hp:(aH g true).getD g.start.toNat false=true
    · rw[if_pos hp,if_pos hp]
      have hf:=bI hr
      rw[JX]
      · exact IZ hr hf.jo hp (xA hr)
      · intro r hm
        obtain ⟨h1,h2⟩:=List.mem_filter.1 hm
        refine ⟨Dm.2 ⟨r,h1,h2,rfl⟩,fun s hs hn=>?_⟩
        refine IZ hr (by omega) ?_ (yW hr h1 h2 hs hn)
        rw[bz,Bool.and_eq_true] at h2
        have:=h2.2
        simp only[dy,List.all_eq_true] at this
        have:=this s hs
        rwa [if_neg (by omega)] at this
    · rw[if_neg hp,if_neg hp]
  · rw[if_neg hr,if_neg hr]
theorem HQ (g:an) (hg:g.Ok) (hs:g.Small):dF Tryz.prog 109 [.agg (aw g)] (tX (eW g)):=by
  rw[← Ik]; exact FB g hg hs
end Gv
