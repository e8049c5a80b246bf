/-
  Part 11 of the proof: what the machine does and what the functions answer.
  Conditions: those that each lemma names.
-/
import Derived.Test.YtkkdjpnkhhlnpaaGreatSGzYJ
set_option linter.unusedSimpArgs false
set_option linter.unusedVariables false
set_option maxRecDepth 100000
namespace Gv
open Go Go.Proofs
def Pj (g:ay) (w:List Int):Bool:=w.all fun x=>decide (0≤x) && decide (x < g.ax.length)
def nH (g:ay) (w:List Int):Bool:=bS g && decide (w.length≤60) && Pj g w
theorem O7 (g:ay) (w:List Int):∀ v∈[V.agg (aw g),encI w],Tree v:=by
  intro v hv; simp at hv
  rcases hv with rfl | rfl
  · exact bL _ (bU g)
  · exact cF w
def vz:SF:=⟨.seq (ak [aZ 3 false]) <|
  .seq (.region false [⟨none,[aa 4 0,az 5 .lss 4 0,aa 6 5]⟩,⟨(some (6,false)),[aa 7 0,au 8 0 1,ao 9 8,aM 10 9,aR 11 .geq 7 10]⟩,⟨none,[bB 12 6 11,aa 3 12]⟩]) <|
  .ret,
  [.tmp 3],13⟩
theorem zT:aY Tryz.prog 100 []=some vz:=by kernel_rfl
def yD:SF:=⟨.seq (ak [bW 2 0,aZ 4 false]) <|
  .seq (.seq (.region false [⟨none,[aO 5 4 2,aQ 6 64 [5],bX 7 6,aa 8 7]⟩,⟨(some (8,false)),[aa 9 1,aM 10 9,az 11 .gtr 10 60]⟩,⟨none,[bB 12 8 11]⟩]) <|
  .cond (.tmp 12) (.seq (ak [aZ 4 false]) <|
  .ret) (.skip)) <|
  .seq (ak [aa 13 1,((some 14),.op (.uV 100 [] [(.tmp 2)])),aQ 15 90 [13,14],bX 16 15,aa 4 16]) <|
  .ret,
  [.tmp 4],17⟩
theorem Cd:aY Tryz.prog 53 [2]=some yD:=by kernel_rfl
theorem Lo (g:ay) (hg:g.Ok) (x:Int) (hx:bJ x):aD Tryz.prog 100 [gi x,.aT (aw g) 0] (gb (!(decide (0≤x) && decide (x < g.ax.length)))):=by
  have hgt:=hg.ax
  unfold aL at hgt
  refine aD.val (by
    intro v hv; simp at hv
    rcases hv with rfl | rfl
    · exact .val _
    · exact iQ (bU g)) fun H=>?_
  refine aC.of mixed zT ?_
  simp (disch:=omega) only [↓wr,↓reduceIte,wq,ah,ag,Nat.reduceAdd,Nat.reduceLeDiff,reduceCtorEq,vz,aw,encS]
  refine av.dec (fun h1=>?_) (fun h1=>?_)
  · simp (disch:=omega) only [↓wr,↓reduceIte,wq,Nat.reduceEqDiff,reduceCtorEq]
    rw[decide_eq_false (show ¬ 0≤x by omega)]; rfl
  · simp (disch:=omega) only [↓wr,↓reduceIte,wq,ag,aj,Nat.reduceEqDiff,Nat.reduceAdd,Nat.reduceLT,reduceCtorEq]
    rw[decide_eq_true (show 0≤x by omega)]
    rw[Bool.true_and,← decide_not]; congr 2; exact decide_eq_decide.2 ⟨fun h=>Int.not_lt.2 h,fun h=>Int.not_lt.1 h⟩
set_option maxHeartbeats 2000000 in
theorem A5 (g:ay) (hg:g.Ok) (hs:g.Small) (w:List Int) (hw:aL w) (hn:∀ x∈w,bJ x):aD Tryz.prog 53 [.agg (aw g),encI w] (gb (nH g w)):=by
  refine aD.val (O7 g w) fun H=>?_
  have hcf:=lV w hw 100 [.aT (aw g) 0] (by intro v hv; simp at hv; subst hv; exact iQ (bU g)) (fun x=>!(decide (0≤x) && decide (x < g.ax.length))) (fun x hx=>Lo g hg x (hn x hx)) (by kernel_rfl)
  refine aC.of mixed Cd ?_
  unfold aL at hw
  simp (disch:=omega) only [↓wr,↓reduceIte,wq,ah,Nat.reduceEqDiff,Nat.reduceAdd,Nat.reduceLeDiff,yD,aw,encS]
  refine aE.pure (D4 g hg hs.names) (by kernel_rfl) ?_
  simp only[aw,encS] at hcf
  simp (disch:=omega) only [↓wr,↓reduceIte,wq]
  refine av.split (fun hr=>?_) (fun hr=>?_)
  · simp (disch:=omega) only [↓wr,↓reduceIte,wq,ag,aj,Nat.reduceEqDiff,encI]
    refine av.dec (fun h6=>?_) (fun h6=>?_)
    · simp (disch:=omega) only [↓wr,↓reduceIte,wq,reduceCtorEq]
      rw[nH,decide_eq_false (show ¬ w.length≤60 by omega)]; simp
    · simp (disch:=omega) only [↓wr,↓reduceIte,wq,Nat.reduceEqDiff]
      refine aE.pure hcf (by kernel_rfl) ?_
      simp (disch:=omega) only [↓wr,↓reduceIte,wq,reduceCtorEq]
      rw[nH,hr,decide_eq_true (show w.length≤60 by omega),← List.not_all_eq_any_not,Bool.not_not]; rfl
  · simp (disch:=omega) only [↓wr,↓reduceIte,wq,Nat.reduceEqDiff,reduceCtorEq]
    rw[nH,hr]; rfl
def bC (c:Cell):List V:=[gi c.kind,gi c.n]
abbrev j3 (l:List Cell):V:=.aX (l.map bC)
def bu (t:dx):List V:=[.aX (t.aK.map fun r=>[j3 r]),.aX (t.gotos.map fun r=>[encI r])]
theorem m0 (c:Cell):∀ v∈bC c,Tree v:=by
  intro v hv; simp[bC] at hv; rcases hv with rfl | rfl <;> exact .val _
theorem HV (l:List Cell):Tree (j3 l):=cL _ _ fun c _ v hv=>m0 c v hv
theorem uC (t:dx):∀ v∈bu t,Tree v:=by
  intro v hv
  simp only[bu,List.mem_cons,List.not_mem_nil,or_false] at hv
  rcases hv with rfl | rfl
  · exact cL _ _ fun r _ v hv=>by simp at hv; subst hv; exact HV r
  · exact cL _ _ fun r _ v hv=>by simp at hv; subst hv; exact cF r
structure dx.Ok (t:dx):Prop where
  aK:aL t.aK
  gotos:aL t.gotos
  row:∀ r∈t.aK,aL r∧∀ c∈r,bJ c.kind∧bJ c.n
  go:∀ r∈t.gotos,aL r∧∀ x∈r,bJ x
def yV:SF:=⟨.seq (ak [bW 3 0,aZ 6 false]) <|
  .seq (ak [aI 7 1]) <|
  .seq (.seq (ak [au 8 0 3,ao 9 8]) <|
  .block 0 (.seq (.seq (ak [az 11 .eql 9 0,aa 10 11]) <|
  .cond (.tmp 10) (.skip) (ak [az 12 .eql 9 3,aa 10 12])) <|
  .cond (.tmp 10) (.skip) (.seq (ak [az 14 .eql 9 1,aa 13 14]) <|
  .cond (.tmp 13) (ak [aa 15 1,aa 7 15]) (.seq (ak [az 17 .eql 9 2,aa 16 17]) <|
  .cond (.tmp 16) (ak [aa 18 2,aa 7 18]) (.seq (ak [aZ 6 false]) <|
  .ret))))) <|
  .seq (.region false [⟨none,[au 19 1 3,ao 20 19,az 21 .geq 20 0,aa 22 21]⟩,⟨(some (22,true)),[au 23 1 3,ao 24 23,aa 25 7,aR 26 .lss 24 25]⟩,⟨none,[bF 27 22 26,aa 6 27]⟩]) <|
  .ret,
  [.tmp 6],28⟩
theorem Cw:aY Tryz.prog 89 [3]=some yV:=by kernel_rfl
def tV:SF:=⟨.seq (ak [bW 3 0,aZ 4 false]) <|
  .seq (ak [aO 5 2 3,ao 6 1,au 7 2 2,ao 8 7,aM 9 8,aQ 10 89 [5,6,9],bX 11 10,aa 4 11]) <|
  .ret,
  [.tmp 4],12⟩
theorem ym:aY Tryz.prog 88 [3]=some tV:=by kernel_rfl
def tg:SF:=⟨.seq (ak [aZ 3 false]) <|
  .seq (.region false [⟨none,[aa 4 0,az 5 .lss 4 (-1),aa 6 5]⟩,⟨(some (6,false)),[aa 7 0,ao 8 1,aR 9 .geq 7 8]⟩,⟨none,[bB 10 6 9,aa 3 10]⟩]) <|
  .ret,
  [.tmp 3],11⟩
theorem yx:aY Tryz.prog 91 []=some tg:=by kernel_rfl
def tq:SC :=
  .seq (ak [aR 33 .lss 32 31]) <|
  .seq (.cond (.tmp 33) (.skip) (.exit 0)) <|
  .seq (.block 1 (.seq (ak [aa 34 32,aS 35 1 30 32,ao 36 35,aa 6 34,aa 7 36]) <|
  .seq (.seq (.region false [⟨none,[aa 37 7,aM 38 37,au 39 0 2,ao 40 39,aM 41 40,az 42 .add 41 1,aR 43 .neq 38 42,aa 44 43]⟩,⟨(some (44,false)),[au 45 1 3,ao 46 45,aa 47 6,aS 48 1 46 47,ao 49 48,aM 50 49,au 51 1 2,ao 52 51,aM 53 52,aR 54 .neq 50 53]⟩,⟨none,[bB 55 44 54]⟩]) <|
  .cond (.tmp 55) (.seq (ak [aZ 4 false]) <|
  .ret) (.skip)) <|
  .seq (.seq (ak [aa 56 7,((some 57),.op (.uV 88 [] [(.tmp 5),(.tmp 2)])),aQ 58 87 [56,57]]) <|
  .cond (.tmp 58) (.seq (ak [aZ 4 false]) <|
  .ret) (.skip)) <|
  .seq (ak [au 59 1 3,ao 60 59,aa 61 6,aS 62 1 60 61,ao 63 62,((some 64),.op (.uV 91 [] [(.tmp 5)])),aQ 65 90 [63,64]]) <|
  .cond (.tmp 65) (.seq (ak [aZ 4 false]) <|
  .ret) (.skip))) <|
  ak [az 66 .add 32 1,aa 32 66]
def xL:SF:=⟨.seq (ak [bW 2 0,bW 3 1,aZ 4 false]) <|
  .seq (ak [au 8 0 3,ao 9 8,aM 10 9,((some 5),.op (.alloc [(.val (.int .i64 0))])),(none,.op (.store 1 (.tmp 5) (.tmp 10)))]) <|
  .seq (.seq (.region false [⟨none,[aO 11 4 2,aQ 12 64 [11],bX 13 12,aa 14 13]⟩,⟨(some (14,false)),[ao 15 5,az 16 .lss 15 1]⟩,⟨none,[bB 17 14 16,aa 18 17]⟩,⟨(some (18,false)),[ao 19 5,az 20 .gtr 19 300]⟩,⟨none,[bB 21 18 20,aa 22 21]⟩,⟨(some (22,false)),[au 23 1 3,ao 24 23,aM 25 24,ao 26 5,aR 27 .neq 25 26]⟩,⟨none,[bB 28 22 27]⟩]) <|
  .cond (.tmp 28) (.seq (ak [aZ 4 false]) <|
  .ret) (.skip)) <|
  .seq (.seq (ak [au 29 0 3,ao 30 29,aM 31 30,aI 32 0]) <|
  .block 0 (.loop tq)) <|
  .seq (ak [aZ 4 true]) <|
  .ret,
  [.tmp 4],67⟩
theorem AM:aY Tryz.prog 46 [2,3]=some xL:=by kernel_rfl
theorem OM (c:Cell) (a b:Int):aD Tryz.prog 89 [.agg (bC c),gi a,gi b] (gb (if c.kind=0∨c.kind=3 then decide (c.n=0) else if c.kind=1 then decide (0≤c.n) && decide (c.n < a) else if c.kind=2 then decide (0≤c.n) && decide (c.n < b) else false)):=by
  refine aD.val (by
    intro v hv; simp at hv
    rcases hv with rfl | rfl | rfl
    · exact bL _ (m0 c)
    · exact .val _
    · exact .val _) fun H=>?_
  refine aC.of mixed Cw ?_
  simp (disch:=omega) only [↓wr,↓reduceIte,wq,ah,ag,Nat.reduceEqDiff,Nat.reduceAdd,Nat.reduceLT,Nat.reduceLeDiff,yV,bC]
  repeat' (first | (refine av.dec (fun _=>?_) (fun _=>?_)) | (refine av.eq (fun _=>?_) (fun _=>?_)) | (refine av.ne (fun _=>?_) (fun _=>?_)) | (refine av.split (fun _=>?_) (fun _=>?_)) | (simp (disch:=omega) only [↓wr,↓reduceIte,wq,ag,Nat.reduceEqDiff,Nat.reduceAdd,Nat.reduceLT,reduceCtorEq]))
  all_goals simp_all
  all_goals omega
theorem KV {g:ay} {t:dx} {i:Nat} (hi:i < t.aK.length) (h:CW g t.aK.length (t.aK.getD i []) (t.gotos.getD i [])=false):j0 g t=false:=by
  rw[Bool.eq_false_iff]
  intro hr
  have:=(zZ hr).row i hi
  rw[h] at this; simp at this
theorem Qs (g:ay) (t:dx):∀ v∈[V.agg (aw g),.agg (bu t)],Tree v:=by
  intro v hv; simp at hv
  rcases hv with rfl | rfl
  · exact bL _ (bU g)
  · exact bL _ (uC t)
def eM:SC :=
  .seq (ak [aR 9 .lss 8 7]) <|
  .seq (.cond (.tmp 9) (.skip) (.exit 0)) <|
  .seq (.block 1 (.seq (ak [aa 10 8,aa 5 10]) <|
  .seq (ak [aa 11 1,aa 12 0,aa 13 5,aS 14 2 12 13,aO 15 2 14,((some 16),.call (.tmp 11) [(.tmp 15)])]) <|
  .cond (.tmp 16) (.seq (ak [aa 17 5,aa 4 17]) <|
  .ret) (.skip))) <|
  ak [az 18 .add 8 1,aa 8 18]
def fb:SF:=⟨.seq (ak [aI 4 0]) <|
  .seq (.seq (ak [aa 6 0,aM 7 6,aI 8 0]) <|
  .block 0 (.loop eM)) <|
  .seq (ak [aI 4 (-1)]) <|
  .ret,
  [.tmp 4],19⟩
theorem iK:aY Tryz.prog 136 []=some fb:=by kernel_rfl
def eC:SF:=⟨.seq (ak [aZ 4 false]) <|
  .seq (ak [aa 5 0,aa 6 1,aQ 7 136 [5,6],az 8 .geq 7 0,aa 4 8]) <|
  .ret,
  [.tmp 4],9⟩
theorem g9:aY Tryz.prog 87 []=some eC:=by kernel_rfl
set_option maxHeartbeats 2000000 in
theorem EY (l:List Cell) (hl:aL l) (f:FuncId) (cap:List V) (p:Cell→Bool) (H:View) (hf:∀ x∈l,aC Tryz.prog f (.agg (bC x) :: cap) H fun r H'=>r=gb (p x)∧H'=H) :
    aC Tryz.prog 136 [.aX (l.map fun x=>bC x),.fn f [] cap] H fun r H'=>r=gi (cE p l 0)∧H'=H:=by
  refine aC.of mixed iK ?_
  unfold aL at hl
  simp (disch:=omega) only [↓wr,↓reduceIte,wq,ah,aj,Nat.reduceAdd,Nat.reduceLeDiff,Int.reduceNeg,reduceCtorEq,fb]
  refine ba.up l.length (fun i T H'=>H=H'∧cE p (l.drop i) i=cE p l 0∧T 0=.aX (l.map fun x=>bC x)∧T 1=.fn f [] cap∧T 7=gi l.length∧T 8=gi i) ⟨rfl,rfl,rfl,rfl,rfl,rfl⟩ ?_
  rintro i k T _ hk ⟨rfl,hi,h0,h1,h7,h8⟩
  simp (disch:=omega) only [↓wr,↓reduceIte,wq,ag,Int.reduceNeg,reduceCtorEq,eM,h7,h8]
  refine av.dec (fun hc=>?_) (fun hc=>?_)
  · have hg:l[i]?=some (l[i]'(by omega)):=List.getElem?_eq_getElem (by omega)
    have hm:l[i]'(by omega)∈l:=List.getElem_mem _
    rw[dJ (show i < l.length by omega)] at hi
    generalize l[i]'(by omega)=x at hg hm hi
    simp (disch:=omega) only [↓wr,↓reduceIte,wq,Nat.reduceEqDiff,Nat.reduceAdd,Nat.reduceLeDiff,Int.reduceNeg,reduceCtorEq,h0,h1,h8,List.getElem?_map,hg,bC]
    have hcall:=hf x hm
    simp only[bC] at hcall
    refine aE.ff (hcall.mono ?_)
    rintro r H2 ⟨rfl,rfl⟩
    simp only[cE] at hi
    simp (disch:=omega) only [↓wr,↓reduceIte,wq,Int.reduceNeg]
    refine av.split (fun hp=>?_) (fun hp=>?_)
    · simp (disch:=omega) only [↓wr,↓reduceIte,wq,ag,Nat.reduceEqDiff,Int.reduceNeg,reduceCtorEq,h8]
      rw[← hi,if_pos hp]
    · simp (disch:=omega) only [↓wr,↓reduceIte,wq,ag,Nat.reduceEqDiff,Int.reduceNeg,reduceCtorEq,h8]
      refine aV hk (by omega) ⟨rfl,?_,h0,h1,h7,rfl⟩
      rw[if_neg (by simp[hp])] at hi
      push_cast; exact hi
  · rw[List.drop_eq_nil_of_le (by omega)] at hi
    simp (disch:=omega) only [↓wr,↓reduceIte,wq,Nat.reduceEqDiff,Int.reduceNeg,reduceCtorEq]
    rw[← hi]; rfl
theorem AV (l:List Cell) (hl:aL l) (f:FuncId) (cap:List V) (p:Cell→Bool) (H:View) (hf:∀ x∈l,aC Tryz.prog f (.agg (bC x) :: cap) H fun r H'=>r=gb (p x)∧H'=H) :
    aC Tryz.prog 87 [.aX (l.map fun x=>bC x),.fn f [] cap] H fun r H'=>r=gb (l.any p)∧H'=H:=by
  refine aC.of mixed g9 ?_
  simp (disch:=omega) only [↓wr,↓reduceIte,wq,ah,Nat.reduceEqDiff,Nat.reduceAdd,Nat.reduceLeDiff,reduceCtorEq,eC]
  refine aE.ff ((EY l hl f cap p H hf).mono ?_)
  rintro r H2 ⟨rfl,rfl⟩
  simp (disch:=omega) only [↓wr,↓reduceIte,wq,ag,reduceCtorEq]
  rw[← kh _ l 0 (by omega)]
def E8 (x:Int):List V:=[gi x]
set_option maxHeartbeats 2000000 in
theorem Hv (l:List Int) (hl:aL l) (f:FuncId) (cap:List V) (p:Int→Bool) (H:View) (hf:∀ x∈l,aC Tryz.prog f (gi x :: cap) H fun r H'=>r=gb (p x)∧H'=H) :
    aC Tryz.prog 137 [.aX (l.map fun x=>E8 x),.fn f [] cap] H fun r H'=>r=gi (cE p l 0)∧H'=H:=by
  refine aC.of mixed gL ?_
  unfold aL at hl
  simp (disch:=omega) only [↓wr,↓reduceIte,wq,ah,aj,Nat.reduceAdd,Nat.reduceLeDiff,Int.reduceNeg,reduceCtorEq,fe]
  refine ba.up l.length (fun i T H'=>H=H'∧cE p (l.drop i) i=cE p l 0∧T 0=.aX (l.map fun x=>E8 x)∧T 1=.fn f [] cap∧T 7=gi l.length∧T 8=gi i) ⟨rfl,rfl,rfl,rfl,rfl,rfl⟩ ?_
  rintro i k T _ hk ⟨rfl,hi,h0,h1,h7,h8⟩
  simp (disch:=omega) only [↓wr,↓reduceIte,wq,ag,Int.reduceNeg,reduceCtorEq,eK,h7,h8]
  refine av.dec (fun hc=>?_) (fun hc=>?_)
  · have hg:l[i]?=some (l[i]'(by omega)):=List.getElem?_eq_getElem (by omega)
    have hm:l[i]'(by omega)∈l:=List.getElem_mem _
    rw[dJ (show i < l.length by omega)] at hi
    generalize l[i]'(by omega)=x at hg hm hi
    simp (disch:=omega) only [↓wr,↓reduceIte,wq,Nat.reduceEqDiff,Nat.reduceLT,Int.reduceNeg,reduceCtorEq,h0,h1,h8,List.getElem?_map,hg,E8]
    have hcall:=hf x hm
    refine aE.ff (hcall.mono ?_)
    rintro r H2 ⟨rfl,rfl⟩
    simp only[cE] at hi
    simp (disch:=omega) only [↓wr,↓reduceIte,wq,Int.reduceNeg]
    refine av.split (fun hp=>?_) (fun hp=>?_)
    · simp (disch:=omega) only [↓wr,↓reduceIte,wq,ag,Nat.reduceEqDiff,Int.reduceNeg,reduceCtorEq,h8]
      rw[← hi,if_pos hp]
    · simp (disch:=omega) only [↓wr,↓reduceIte,wq,ag,Nat.reduceEqDiff,Int.reduceNeg,reduceCtorEq,h8]
      refine aV hk (by omega) ⟨rfl,?_,h0,h1,h7,rfl⟩
      rw[if_neg (by simp[hp])] at hi
      push_cast; exact hi
  · rw[List.drop_eq_nil_of_le (by omega)] at hi
    simp (disch:=omega) only [↓wr,↓reduceIte,wq,Nat.reduceEqDiff,Int.reduceNeg,reduceCtorEq]
    rw[← hi]; rfl
theorem BF (l:List Int) (hl:aL l) (f:FuncId) (cap:List V) (p:Int→Bool) (H:View) (hf:∀ x∈l,aC Tryz.prog f (gi x :: cap) H fun r H'=>r=gb (p x)∧H'=H) :
    aC Tryz.prog 90 [.aX (l.map fun x=>E8 x),.fn f [] cap] H fun r H'=>r=gb (l.any p)∧H'=H:=by
  refine aC.of mixed fW ?_
  simp (disch:=omega) only [↓wr,↓reduceIte,wq,ah,Nat.reduceEqDiff,Nat.reduceAdd,Nat.reduceLeDiff,reduceCtorEq,ey]
  refine aE.ff ((Hv l hl f cap p H hf).mono ?_)
  rintro r H2 ⟨rfl,rfl⟩
  simp (disch:=omega) only [↓wr,↓reduceIte,wq,ag,reduceCtorEq]
  rw[← kh _ l 0 (by omega)]
theorem Q6 (g:ay) (b n:Nat) (c:Cell) (H:View) (hb:H b=.arr 1 [[gi n]]):aC Tryz.prog 88 [.agg (bC c),.ptr b 0 0,.aT (aw g) 0] H fun r H'=>r=gb (!tN g n c)∧H'=H:=by
  refine aC.of mixed ym ?_
  have hcall:=OM c n g.rules.length
  simp only[bC] at hcall
  simp (disch:=omega) only [↓wr,↓reduceIte,wq,ah,aj,Nat.reduceEqDiff,Nat.reduceAdd,Nat.reduceLT,Nat.reduceLeDiff,tV,bC,aw,encS,hb]
  refine aE.pure hcall (by kernel_rfl) ?_
  simp (disch:=omega) only [↓wr,↓reduceIte,wq,reduceCtorEq]
  rfl
theorem Rc (b n:Nat) (x:Int) (H:View) (hb:H b=.arr 1 [[gi n]]):aC Tryz.prog 91 [gi x,.ptr b 0 0] H fun r H'=>r=gb (!(decide (-1≤x) && decide (x < n)))∧H'=H:=by
  refine aC.of mixed yx ?_
  simp (disch:=omega) only [↓wr,↓reduceIte,wq,ah,ag,Nat.reduceAdd,Nat.reduceLeDiff,Int.reduceNeg,reduceCtorEq,tg]
  repeat' (first | (refine av.dec (fun _=>?_) (fun _=>?_)) | (refine av.eq (fun _=>?_) (fun _=>?_)) | (refine av.ne (fun _=>?_) (fun _=>?_)) | (refine av.split (fun _=>?_) (fun _=>?_)) | (simp (disch:=omega) only [↓wr,↓reduceIte,wq,ag,Nat.reduceEqDiff,Nat.reduceLT,Int.reduceNeg,reduceCtorEq,hb]))
  · rename_i hx
    rw[decide_eq_false (show ¬ -1≤x by omega)]; rfl
  · rename_i hx
    rw[decide_eq_true (show -1≤x by omega),Bool.true_and,← decide_not]
    rw[decide_eq_decide.2 (show (x≥(n:Int))↔¬ x < n by omega)]
set_option maxHeartbeats 8000000 in
theorem MP (g:ay) (hg:g.Ok) (hsm:g.Small) (t:dx) (ht:t.Ok):aD Tryz.prog 46 [.agg (aw g),.agg (bu t)] (gb (j0 g t)):=by
  refine aD.val (Qs g t) fun H=>?_
  have hc:=D4 g hg hsm.names
  have h1:=ht.aK
  have h2:=ht.gotos
  have h3:=hg.ax
  have h4:=hg.aA
  unfold aL at h1 h2 h3 h4
  refine aC.of mixed AM ?_
  simp only[aw,encS] at hc
  simp (disch:=omega) only [↓wr,↓reduceIte,wq,ah,aj,ab,Nat.reduceEqDiff,Nat.reduceAdd,Nat.reduceLT,Nat.reduceLeDiff,xL,aw,encS,bu]
  intro b hb
  rw[set_set]
  have hbn:(H.set b (.arr 1 [[gi t.aK.length]])) b=.arr 1 [[gi t.aK.length]]:=by simp[View.set]
  generalize H.set b (.arr 1 [[gi t.aK.length]])=H1 at hbn
  try simp (disch:=omega) only [↓wr,↓reduceIte,wq,ah,ag,aj,ab,ae,af,ai,isNil,Nat.reduceEqDiff,Nat.reduceAdd,Nat.reduceLT,Nat.reduceLeDiff,Int.reduceNeg,Int.reduceToNat,reduceCtorEq,bu,hbn]
  refine aE.pure hc (by kernel_rfl) ?_
  have hno:(bS g && decide (1≤t.aK.length) && decide (t.aK.length≤300) && decide (t.gotos.length=t.aK.length))=false→j0 g t=false:=fun h=>by unfold j0; rw[h]; rfl
  simp (disch:=omega) only [↓wr,↓reduceIte,wq]
  refine av.split (fun hr=>?_) (fun hr=>?_)
  rotate_left
  · simp (disch:=omega) only [↓wr,↓reduceIte,wq,Nat.reduceEqDiff,reduceCtorEq]
    rw[hno (by rw[hr]; rfl)]
  simp (disch:=omega) only [↓wr,↓reduceIte,wq,ag,Nat.reduceEqDiff,Nat.reduceLT,hbn]
  refine av.dec (fun c1=>?_) (fun c1=>?_)
  · simp (disch:=omega) only [↓wr,↓reduceIte,wq,Nat.reduceEqDiff,reduceCtorEq]
    rw[hno (by rw[hr]; simp; omega)]
  simp (disch:=omega) only [↓wr,↓reduceIte,wq,ag,Nat.reduceEqDiff,Nat.reduceLT,hbn]
  refine av.dec (fun c2=>?_) (fun c2=>?_)
  · simp (disch:=omega) only [↓wr,↓reduceIte,wq,Nat.reduceEqDiff,reduceCtorEq]
    rw[hno (by rw[hr]; simp; omega)]
  simp (disch:=omega) only [↓wr,↓reduceIte,wq,ag,aj,Nat.reduceEqDiff,Nat.reduceAdd,Nat.reduceLT,hbn]
  refine av.ne (fun c3=>?_) (fun c3=>?_)
  · simp (disch:=omega) only [↓wr,↓reduceIte,wq,reduceCtorEq]
    rw[hno (by rw[hr]; simp; omega)]
  simp (disch:=omega) only [↓wr,↓reduceIte,wq,aj,Nat.reduceEqDiff,Nat.reduceAdd,Nat.reduceLT]
  have hf:=cn hr
  refine ba.up t.aK.length (fun i T H'=>H1=H'∧(∀ k,k < i→CW g t.aK.length (t.aK.getD k []) (t.gotos.getD k [])=true)∧T 2=.aT (aw g) 0∧T 3=.aT (bu t) 0∧T 5=.ptr b 0 0∧T 30=.aX (t.aK.map fun r=>[j3 r])∧T 31=gi t.aK.length∧T 32=gi i) ⟨rfl,fun k hk=>by omega,rfl,rfl,rfl,rfl,rfl,rfl⟩ ?_
  rintro i k T _ hk ⟨rfl,hall,t2,t3,t5,t30,t31,t32⟩
  simp (disch:=omega) only [↓wr,↓reduceIte,wq,ag,reduceCtorEq,tq,t31,t32,bu]
  refine av.dec (fun hd=>?_) (fun hd=>?_)
  rotate_left
  · simp (disch:=omega) only [↓wr,↓reduceIte,wq,Nat.reduceEqDiff,reduceCtorEq]
    rw[show j0 g t=true from by
      unfold j0
      rw[hr]
      simp only[Bool.and_eq_true,decide_eq_true_eq,List.all_eq_true,List.mem_range,Bool.true_and]
      exact ⟨⟨⟨by omega,by omega⟩,by omega⟩,fun k hk=>hall k (by omega)⟩]
  have hi:i < t.aK.length:=by omega
  have ha:t.aK[i]?=some (t.aK.getD i []):=getD_some hi
  have hl:t.gotos[i]?=some (t.gotos.getD i []):=getD_some (by omega)
  have ra:=ht.row _ (List.mem_of_getElem? ha)
  have rl:=ht.go _ (List.mem_of_getElem? hl)
  have hrow:=@KV g t i hi
  generalize ea:t.aK.getD i []=a at ha ra hrow
  generalize el:t.gotos.getD i []=l at hl rl hrow
  have hrs:CW g t.aK.length a l=(decide (a.length=g.ax.length+1) && decide (l.length=g.aA.length) && a.all (tN g t.aK.length) && l.all fun x=>decide (-1≤x) && decide (x < t.aK.length)):=rfl
  obtain ⟨sa,ra⟩:=ra
  obtain ⟨sl,rl⟩:=rl
  have hsa:=sa
  have hsl:=sl
  unfold aL at sa sl
  simp (disch:=omega) only [↓wr,↓reduceIte,wq,ag,aj,Nat.reduceEqDiff,Nat.reduceAdd,Nat.reduceLT,t2,t30,t32,aw,encS,List.getElem?_map,ha]
  refine av.ne (fun d1=>?_) (fun d1=>?_)
  · simp (disch:=omega) only [↓wr,↓reduceIte,wq,ag,Nat.reduceEqDiff,reduceCtorEq]
    rw[hrow (by rw[hrs]; simp; omega)]
  simp (disch:=omega) only [↓wr,↓reduceIte,wq,ag,aj,Nat.reduceEqDiff,Nat.reduceAdd,Nat.reduceLT,t2,t3,bu,aw,encS,encI,List.getElem?_map,hl]
  refine av.ne (fun d2=>?_) (fun d2=>?_)
  · simp (disch:=omega) only [↓wr,↓reduceIte,wq,ag,Nat.reduceEqDiff,reduceCtorEq]
    rw[hrow (by rw[hrs]; simp; omega)]
  simp (disch:=omega) only [↓wr,↓reduceIte,wq,Nat.reduceEqDiff,t2,t5]
  refine aE.ff ((AV a hsa 88 [.ptr b 0 0,.aT (aw g) 0] (fun c=>!tN g t.aK.length c) H1 fun c _=>Q6 g b t.aK.length c H1 hbn).mono ?_)
  rintro r H2 ⟨rfl,rfl⟩
  simp (disch:=omega) only [↓wr,↓reduceIte,wq]
  refine av.split (fun hx=>?_) (fun hx=>?_)
  · simp (disch:=omega) only [↓wr,↓reduceIte,wq,ag,Nat.reduceEqDiff,reduceCtorEq]
    rw[hrow (by
      obtain ⟨c,hcm,hcf⟩:=List.any_eq_true.1 hx
      rw[hrs,Bool.eq_false_iff]
      intro h
      simp only[Bool.and_eq_true,List.all_eq_true] at h
      have:=h.1.2 c hcm
      rw[this] at hcf; simp at hcf)]
  simp (disch:=omega) only [↓wr,↓reduceIte,wq,Nat.reduceEqDiff,Nat.reduceAdd,Nat.reduceLT,t3,t5,bu,encI,List.getElem?_map,hl]
  refine aE.ff ((BF l hsl 91 [.ptr b 0 0] (fun x=>!(decide (-1≤x) && decide (x < t.aK.length))) H2 fun x _=>Rc b t.aK.length x H2 hbn).mono ?_)
  rintro r H2 ⟨rfl,rfl⟩
  simp (disch:=omega) only [↓wr,↓reduceIte,wq,Int.reduceNeg]
  refine av.split (fun hy=>?_) (fun hy=>?_)
  · simp (disch:=omega) only [↓wr,↓reduceIte,wq,ag,Nat.reduceEqDiff,Int.reduceNeg,reduceCtorEq]
    rw[hrow (by
      obtain ⟨c,hcm,hcf⟩:=List.any_eq_true.1 hy
      rw[hrs,Bool.eq_false_iff]
      intro h
      simp only[Bool.and_eq_true,List.all_eq_true] at h
      have:=h.2 c hcm
      simp only[this.1,this.2] at hcf; simp at hcf)]
  · simp (disch:=omega) only [↓wr,↓reduceIte,wq,ag,Nat.reduceEqDiff,Int.reduceNeg,reduceCtorEq,t32]
    refine aV hk (by omega) ⟨rfl,fun k hk=>?_,t2,t3,t5,t30,t31,rfl⟩
    by_cases e:k=i
    · subst e
      rw[ea,el,hrs]
      rw[List.any_eq_false] at hx hy
      simp only[Bool.and_eq_true,List.all_eq_true,decide_eq_true_eq]
      refine ⟨⟨⟨by omega,by omega⟩,fun c hc=>?_⟩,fun x hx'=>?_⟩
      · simpa using hx c hc
      · simpa using hy x hx'
    · exact hall k (by omega)
section
variable {g r:ay} {p q:List Bool} {o:List Int}
end
theorem bytes_beq (a b:ByteArray):(a == b)=decide (a=b):=by
  cases a with | mk a=>cases b with | mk b =>
  rw[Bool.eq_iff_iff]
  show (ByteArray.beq ⟨a⟩ ⟨b⟩=true)↔_
  simp only[ByteArray.beq]
  simp
theorem LX (a b:ByteArray):hU a b=decide (a=b):=by
  cases a with | mk a=>cases b with | mk b =>
  rw[Bool.eq_iff_iff]
  simp[hU]
theorem CN {α:Type} {a b:List α} {i:Nat} {x y:α} (hx:a[i]?=some x) (hy:b[i]?=some y) (h:a.take i=b.take i) (e:x=y):a.take (i+1)=b.take (i+1):=by
  rw[List.take_add_one,List.take_add_one,h,hx,hy,e]
theorem G6 {α:Type} {a b:List α} {i:Nat} (ha:a.length≤i) (hb:b.length≤i) (h:a.take i=b.take i):a=b:=by
  rwa [List.take_of_length_le ha,List.take_of_length_le hb] at h
theorem J0 {α:Type} {a b:List α} {i:Nat} {x y:α} (hx:a[i]?=some x) (hy:b[i]?=some y) (e:x≠y):a≠b:=by
  rintro rfl; rw[hx] at hy; exact e (by simpa using hy)
theorem FT {α:Type} {a b:List α} (h:¬ a.length=b.length):a≠b:=fun e=>h (by rw[e])
theorem Ib (x y:Term):eX Tryz.prog 9998 #[.string x.name,.int .i64 x.level,.int .i64 x.assoc] #[.string y.name,.int .i64 y.level,.int .i64 y.assoc]
    [{ name:= "Name",type:=9,offset:=0,embedded:=false,tag:= "",pkgPath:= "",byteOffset:=0 },{ name:= "Level",type:=3,offset:=1,embedded:=false,tag:= "",pkgPath:= "",byteOffset:=16 },
        { name:= "Assoc",type:=3,offset:=2,embedded:=false,tag:= "",pkgPath:= "",byteOffset:=24 }] (x.name == y.name && (x.level == y.level && (x.assoc == y.assoc && true))) :=
  .str _ _ _ _ _ (by decide) Tryz.underlying9 rfl rfl (.int _ _ _ _ _ _ (by decide) Tryz.underlying3 rfl rfl (.int _ _ _ _ _ _ (by decide) Tryz.underlying3 rfl rfl .nil))
theorem Qp (x y:Term):(x.name == y.name && (x.level == y.level && (x.assoc == y.assoc && true)))=decide (x=y):=by
  rw[bytes_beq,Bool.eq_iff_iff]
  cases x; cases y
  simp
theorem PY (a b:Int):(a == b)=decide (a=b):=by rw[Bool.eq_iff_iff]; simp
theorem OU (x y:ay):decide (x=y)=(decide (x.ax=y.ax) && (decide (x.aA=y.aA) && (decide (x.rules=y.rules) && decide (x.start=y.start)))):=by
  cases x; cases y
  rw[Bool.eq_iff_iff]
  simp
theorem MZ (g k:ay):∀ v∈[V.agg (aw g),V.agg (aw k)],Tree v:=by
  intro v hv; simp at hv
  rcases hv with rfl | rfl <;> exact bL _ (bU _)
def nh:SC :=
  .seq (.seq (ak [aa 42 5,au 43 0 2,ao 44 43,aM 45 44,aR 46 .lss 42 45]) <|
  .cond (.tmp 46) (.skip) (.exit 0)) <|
  .seq (.block 1 (.seq (ak [au 49 0 2,ao 50 49,aa 51 5,aS 52 3 50 51,aO 53 3 52,au 54 0 3,ao 55 54,aa 56 5,aS 57 3 55 56,aO 58 3 57,((some 59),.op (.old (.binOp .neq 134 (.tmp 53) (.tmp 58) 134) 4))]) <|
  .cond (.tmp 59) (.seq (ak [aZ 4 false]) <|
  .ret) (.skip))) <|
  ak [aa 47 5,az 48 .add 47 1,aa 5 48]
def nP:SC :=
  .seq (.seq (ak [aa 60 6,au 61 1 2,ao 62 61,aM 63 62,aR 64 .lss 60 63]) <|
  .cond (.tmp 64) (.skip) (.exit 2)) <|
  .seq (.block 3 (.seq (ak [au 67 1 2,ao 68 67,aa 69 6,aS 70 1 68 69,ao 71 70,au 72 1 3,ao 73 72,aa 74 6,aS 75 1 73 74,ao 76 75,((some 77),.op (.jx .neq (.tmp 71) (.tmp 76)))]) <|
  .cond (.tmp 77) (.seq (ak [aZ 4 false]) <|
  .ret) (.skip))) <|
  ak [aa 65 6,az 66 .add 65 1,aa 6 66]
def mT:SC :=
  .seq (.seq (ak [aa 78 7,au 79 2 2,ao 80 79,aM 81 80,aR 82 .lss 78 81]) <|
  .cond (.tmp 82) (.skip) (.exit 4)) <|
  .seq (.block 5 (.seq (ak [au 85 2 2,ao 86 85,aa 87 7,aS 88 3 86 87,aO 89 3 88,au 90 2 3,ao 91 90,aa 92 7,aS 93 3 91 92,aO 94 3 93,((some 8),.op (.alloc [(.val (.int .i64 0)),(.emp 1),(.val (.int .i64 0))])),((some 9),.op (.alloc [(.val (.int .i64 0)),(.emp 1),(.val (.int .i64 0))])),(none,.op (.store 3 (.tmp 8) (.tmp 89))),(none,.op (.store 3 (.tmp 9) (.tmp 94)))]) <|
  .seq (.region false [⟨none,[au 95 0 8,ao 96 95,au 97 0 9,ao 98 97,aR 99 .neq 96 98,aa 100 99]⟩,⟨(some (100,false)),[au 101 2 8,ao 102 101,au 103 2 9,ao 104 103,aR 105 .neq 102 104]⟩,⟨none,[bB 106 100 105,aa 107 106]⟩,⟨(some (107,false)),[au 108 1 8,ao 109 108,au 110 1 9,ao 111 110,aQ 112 21 [109,111],bX 113 112]⟩,⟨none,[bB 114 107 113]⟩]) <|
  .cond (.tmp 114) (.seq (ak [aZ 4 false]) <|
  .ret) (.skip))) <|
  ak [aa 83 7,az 84 .add 83 1,aa 7 84]
def qy:SF:=⟨.seq (ak [bW 2 0,bW 3 1,aZ 4 false]) <|
  .seq (.seq (.region false [⟨none,[au 10 0 2,ao 11 10,aM 12 11,au 13 0 3,ao 14 13,aM 15 14,aR 16 .neq 12 15,aa 17 16]⟩,⟨(some (17,false)),[au 18 1 2,ao 19 18,aM 20 19,au 21 1 3,ao 22 21,aM 23 22,aR 24 .neq 20 23]⟩,⟨none,[bB 25 17 24,aa 26 25]⟩,⟨(some (26,false)),[au 27 2 2,ao 28 27,aM 29 28,au 30 2 3,ao 31 30,aM 32 31,aR 33 .neq 29 32]⟩,⟨none,[bB 34 26 33,aa 35 34]⟩,⟨(some (35,false)),[au 36 3 2,ao 37 36,au 38 3 3,ao 39 38,aR 40 .neq 37 39]⟩,⟨none,[bB 41 35 40]⟩]) <|
  .cond (.tmp 41) (.seq (ak [aZ 4 false]) <|
  .ret) (.skip)) <|
  .seq (.seq (ak [aI 5 0]) <|
  .block 0 (.loop nh)) <|
  .seq (.seq (ak [aI 6 0]) <|
  .block 2 (.loop nP)) <|
  .seq (.seq (ak [aI 7 0]) <|
  .block 4 (.loop mT)) <|
  .seq (ak [aZ 4 true]) <|
  .ret,
  [.tmp 4],115⟩
theorem vu:aY Tryz.prog 44 [2,3]=some qy:=by kernel_rfl
set_option maxHeartbeats 2000000 in
theorem Mg (g k:ay) (hg:g.Ok):aD Tryz.prog 44 [.agg (aw g),.agg (aw k)] (gb (decide (g=k))):=by
  refine aD.val (MZ g k) fun H=>?_
  rw[OU]
  refine aC.of mixed vu ?_
  have h1:=hg.ax
  have h2:=hg.aA
  have h3:=hg.rules
  unfold aL at h1 h2 h3
  simp (disch:=omega) only [↓wr,↓reduceIte,wq,ah,ag,aj,Nat.reduceEqDiff,Nat.reduceAdd,Nat.reduceLT,Nat.reduceLeDiff,qy,aw,encS]
  repeat' (first | (refine av.dec (fun _=>?_) (fun _=>?_)) | (refine av.eq (fun _=>?_) (fun _=>?_)) | (refine av.ne (fun _=>?_) (fun _=>?_)) | (refine av.split (fun _=>?_) (fun _=>?_)) | (simp (disch:=omega) only [↓wr,↓reduceIte,wq,ag,aj,Nat.reduceEqDiff,Nat.reduceAdd,Nat.reduceLT,reduceCtorEq]))
  · rename_i e; rw[decide_eq_false (FT (by omega))]; rfl
  · rename_i e; rw[decide_eq_false (p:=g.aA=k.aA) (FT (by omega))]; simp
  · rename_i e; rw[decide_eq_false (p:=g.rules=k.rules) (FT (by omega))]; simp
  · rename_i e; rw[decide_eq_false e]; simp
  rename_i l1 l2 l3 l4
  refine ba.up g.ax.length (fun i T _=>g.ax.take i=k.ax.take i∧T 2=.aT (aw g) 0∧T 3=.aT (aw k) 0∧T 5=gi i) ⟨by simp,rfl,rfl,rfl⟩ ?_
  rintro i m T H hm ⟨hi,t2,t3,t5⟩
  simp (disch:=omega) only [↓wr,↓reduceIte,wq,ag,aj,Nat.reduceEqDiff,Nat.reduceAdd,Nat.reduceLT,nh,t2,t5,aw,encS]
  refine av.dec (fun hc=>?_) (fun hc=>?_)
  · have hx:=List.getElem?_eq_getElem (l:=g.ax) (i:=i) (by omega)
    have hy:=List.getElem?_eq_getElem (l:=k.ax) (i:=i) (by omega)
    generalize g.ax[i]'(by omega)=x at hx
    generalize k.ax[i]'(by omega)=y at hy
    simp (disch:=omega) only [↓wr,↓reduceIte,wq,Nat.reduceEqDiff,Nat.reduceAdd,Nat.reduceLT,Nat.reduceLeDiff,t2,t3,t5,List.getElem?_map,hx,hy,dP,aw,encS]
    refine gB (xs:=#[.string x.name,.int .i64 x.level,.int .i64 x.assoc]) (ys:=#[.string y.name,.int .i64 y.level,.int .i64 y.assoc]) Tryz.underlying134 (by kernel_rfl) (by kernel_rfl) ?_ ?_ (Ib x y) (.inr ⟨rfl,rfl⟩) ?_
    · rfl
    · rfl
    rw[Qp]
    simp (disch:=omega) only [↓wr,↓reduceIte,wq]
    refine av.split (fun e=>?_) (fun e=>?_)
    · simp (disch:=omega) only [↓wr,↓reduceIte,wq,ag,Nat.reduceEqDiff,reduceCtorEq,t5]
      exact aV hm (by omega) ⟨CN hx hy hi (by simpa using e),t2,t3,rfl⟩
    · simp (disch:=omega) only [↓wr,↓reduceIte,wq,ag,Nat.reduceEqDiff,reduceCtorEq,t5]
      rw[decide_eq_false (J0 hx hy (by simpa using e))]; rfl
  have e1:g.ax=k.ax:=G6 (by omega) (by omega) hi
  simp (disch:=omega) only [↓wr,↓reduceIte,wq,Nat.reduceEqDiff,reduceCtorEq]
  clear hi hc hm
  refine ba.up g.aA.length (fun i T _=>g.aA.take i=k.aA.take i∧T 2=.aT (aw g) 0∧T 3=.aT (aw k) 0∧T 6=gi i) ⟨by simp,t2,t3,rfl⟩ ?_
  clear t2 t3 t5 T H i m
  rintro i m T H hm ⟨hi,t2,t3,t5⟩
  simp (disch:=omega) only [↓wr,↓reduceIte,wq,ag,aj,Nat.reduceEqDiff,Nat.reduceAdd,Nat.reduceLT,nP,t2,t5,aw,encS]
  refine av.dec (fun hc=>?_) (fun hc=>?_)
  · have hx:=List.getElem?_eq_getElem (l:=g.aA) (i:=i) (by omega)
    have hy:=List.getElem?_eq_getElem (l:=k.aA) (i:=i) (by omega)
    generalize g.aA[i]'(by omega)=x at hx
    generalize k.aA[i]'(by omega)=y at hy
    simp (disch:=omega) only [↓wr,↓reduceIte,wq,Nat.reduceEqDiff,Nat.reduceAdd,Nat.reduceLT,t2,t3,t5,List.getElem?_map,hx,hy,aw,encS,LX]
    refine av.split (fun e=>?_) (fun e=>?_)
    · simp (disch:=omega) only [↓wr,↓reduceIte,wq,ag,Nat.reduceEqDiff,reduceCtorEq,t5]
      exact aV hm (by omega) ⟨CN hx hy hi (by simpa using e),t2,t3,rfl⟩
    · simp (disch:=omega) only [↓wr,↓reduceIte,wq,ag,Nat.reduceEqDiff,reduceCtorEq,t5]
      rw[decide_eq_false (p:=g.aA=k.aA) (J0 hx hy (by simpa using e))]; simp
  have e2:g.aA=k.aA:=G6 (by omega) (by omega) hi
  simp (disch:=omega) only [↓wr,↓reduceIte,wq,Nat.reduceEqDiff,reduceCtorEq]
  clear hi hc hm
  refine ba.up g.rules.length (fun i T _=>g.rules.take i=k.rules.take i∧T 2=.aT (aw g) 0∧T 3=.aT (aw k) 0∧T 7=gi i) ⟨by simp,t2,t3,rfl⟩ ?_
  clear t2 t3 t5 T H i m
  rintro i m T H hm ⟨hi,t2,t3,t5⟩
  simp (disch:=omega) only [↓wr,↓reduceIte,wq,ag,aj,Nat.reduceEqDiff,Nat.reduceAdd,Nat.reduceLT,reduceCtorEq,mT,t2,t5,aw,encS]
  refine av.dec (fun hc=>?_) (fun hc=>?_)
  · have hx:=List.getElem?_eq_getElem (l:=g.rules) (i:=i) (by omega)
    have hy:=List.getElem?_eq_getElem (l:=k.rules) (i:=i) (by omega)
    have hmx:g.rules[i]'(by omega)∈g.rules:=List.getElem_mem _
    generalize g.rules[i]'(by omega)=x at hx hmx
    generalize k.rules[i]'(by omega)=y at hy
    have hsx:=(hg.aP x hmx).2.2.1
    simp (disch:=omega) only [↓wr,↓reduceIte,wq,ab,Nat.reduceEqDiff,Nat.reduceAdd,Nat.reduceLT,Nat.reduceLeDiff,t2,t3,t5,List.getElem?_map,hx,hy,bP,encI,aw,encS]
    intro n hn
    try simp (disch:=omega) only [↓wr,↓reduceIte,wq,ah,ag,aj,ab,ae,af,ai,isNil,Nat.reduceEqDiff,Nat.reduceAdd,Nat.reduceLT,Nat.reduceLeDiff,Int.reduceNeg,Int.reduceToNat,reduceCtorEq,t2,t3,t5,bP,encI]
    intro n2 hn2
    have hmn:=(dz hn2 cT).1
    try simp (disch:=omega) only [↓wr,↓reduceIte,wq,ag,ab,Nat.reduceEqDiff,Nat.reduceAdd,Nat.reduceLT,Nat.reduceLeDiff,hmn,hmn.symm]
    have hne:x≠y→V.val (Value.bool false)=V.val (Value.bool (decide (g.ax=k.ax) && (decide (g.aA=k.aA) && (decide (g.rules=k.rules) && decide (g.start=k.start))))):=fun e=>by
      rw[decide_eq_false (p:=g.rules=k.rules) (J0 hx hy e)]; simp
    repeat' (first | (refine av.dec (fun _=>?_) (fun _=>?_)) | (refine av.eq (fun _=>?_) (fun _=>?_)) | (refine av.ne (fun _=>?_) (fun _=>?_)) | (refine av.split (fun _=>?_) (fun _=>?_)) | (refine aE.pure (Dp x.right y.right hsx) (by kernel_rfl) ?_) | (simp (disch:=omega) only [↓wr,↓reduceIte,wq,ag,Nat.reduceEqDiff,Nat.reduceAdd,Nat.reduceLT,reduceCtorEq,t5,hmn.symm]))
    · rename_i e; exact hne fun h=>e (by rw[h])
    · rename_i e; exact hne fun h=>e (by rw[h])
    · rename_i e3 e2 e1
      refine aV hm (by omega) ⟨CN hx hy hi ?_,t2,t3,rfl⟩
      cases x; cases y
      simp_all
    · rename_i e; exact hne fun h=>by rw[h] at e; simp at e
  · have e3:g.rules=k.rules:=G6 (by omega) (by omega) hi
    simp (disch:=omega) only [↓wr,↓reduceIte,wq,Nat.reduceEqDiff,reduceCtorEq]
    simp[e1,e2,e3,l4]
def sr:SF:=⟨.seq (ak [bW 1 0,aZ 2 false]) <|
  .seq (ak [aO 7 4 1,aQ 8 82 [7],aa 6 8,bH 9 0 6,bH 10 1 6,bH 11 2 6,((some 3),.op (.alloc [(.emp 1),(.emp 1),(.emp 1),(.val (.int .i64 0))])),(none,.op (.store 4 (.tmp 3) (.tmp 9))),aa 4 10,aa 5 11]) <|
  .seq (.region false [⟨none,[aa 12 5,az 13 .eql 12 0,aa 14 13]⟩,⟨(some (14,true)),[aO 15 4 1,aO 16 4 3,aQ 17 44 [15,16]]⟩,⟨none,[bF 18 14 17,aa 2 18]⟩]) <|
  .ret,
  [.tmp 2],19⟩
theorem x5:aY Tryz.prog 38 [1]=some sr:=by kernel_rfl
theorem Rp (g:ay) (hg:g.Ok):aD Tryz.prog 38 [.agg (aw g)] (gb (isRed g)):=by
  refine aD.val (fY g) fun H=>?_
  refine aC.of mixed x5 ?_
  simp (disch:=omega) only [↓wr,↓reduceIte,wq,ah,Nat.reduceEqDiff,Nat.reduceAdd,Nat.reduceLeDiff,sr,aw,encS]
  refine aE.pure (HX g hg).pure (by kernel_rfl) ?_
  unfold isRed
  generalize ko g=x
  obtain ⟨k,il,e⟩:=x
  simp (disch:=omega) only [↓wr,↓reduceIte,wq,ag,ab,Nat.reduceEqDiff,Nat.reduceAdd,Nat.reduceLT,Nat.reduceLeDiff,Fq,aw,encS]
  intro n hn
  refine av.eq (fun h=>?_) (fun h=>?_)
  · simp (disch:=omega) only [↓wr,↓reduceIte,wq,Nat.reduceEqDiff,Nat.reduceAdd,Nat.reduceLT,Nat.reduceLeDiff]
    refine aE.pure (Mg g k hg) (by kernel_rfl) ?_
    simp (disch:=omega) only [↓wr,↓reduceIte,wq,Nat.reduceEqDiff,reduceCtorEq]
    simp[h]
  · simp (disch:=omega) only [↓wr,↓reduceIte,wq,Nat.reduceEqDiff,reduceCtorEq]
    simp[h]
theorem bZ.fr {h:aH} {v t:V} (f:bZ h v t):Fr h v t:=by
  induction f with
  | val v=>exact .tree _ (.val _)
  | emp k=>exact .emp k
  | sl id off len esz z es es' h1 h2 h3 h4 _ ih=>exact .sl id off len esz z es es' h1 h2 h3 h4 ih
  | agg cs cs' h1 _ ih=>exact .agg cs cs' h1 ih
  | bf cs cs' h1 _ ih=>exact .bf cs cs' h1 ih
section
variable {κ:Type} [BEq κ] [LawfulBEq κ] {kv:κ→V}
variable {P:Program} {T:Env} {H:View} {kt et t ty:TypeId}
end
def Pz:List Int:=[37,37,32,115,32,58,32,39,97,39,32,115,32,124,32,59]
def fh:ay:=⟨[⟨⟨#[39,97,39]⟩,0,0⟩],[⟨#[115]⟩],[⟨0,[0,(-1)],0⟩,⟨0,[],(-1)⟩],0⟩
theorem RJ:cH Tryz.prog 52 [wA Pz] (me fh):=CO (by kernel_rfl)
section
variable {g:ay} {p:List Int} {T:Tb} {N:Nat}
end
section
variable {g r:ay} {p q:List Bool} {o:List Int}
end
section
variable {fit:List Int→Bool} {T b:Nat}
end
def RR (l:List (List Int)):V:=.aX (l.map fun w=>[encI w])
abbrev R7:=List (V × List Int)
def CK (b:R7):List (List V):=b.map fun x=>[x.1]
def KR (H:View) (u:V) (out:List (List Int)):Prop:=∃ b:R7,b.map (·.2)=out∧bc H u 1 (CK b)∧∀ x∈b,bc H x.1 1 (bA x.2)
theorem KR.R6 {h:aH} {u:V} {out:List (List Int)} (ho:KR h.view u out):bZ h u (RR out):=by
  obtain ⟨b,rfl,ho,hb⟩:=ho
  have hg:∀ i (hi:i < b.length),(CK b).getD i []=[(b[i]).1]∧(((b.map (·.2)).map fun w=>[encI w]).getD i [])=[encI (b[i]).2]:=fun i hi=>by
    simp[CK,List.getD_eq_getElem?_getD,hi]
  refine bZ.own ho (by simp[CK]) (fun i hi=>?_) (fun i j hi hj=>?_)
  · have hi':i < b.length:=by simpa [CK] using hi
    rw[(hg i hi').1,(hg i hi').2]; rfl
  · have hi':i < b.length:=by simpa [CK] using hi
    rw[(hg i hi').2] at hj ⊢
    rw[(hg i hi').1]
    have:j=0:=by simp at hj; omega
    subst this
    simp only[List.getD_cons_zero]
    exact bZ.KL (hb _ (List.getElem_mem hi'))
theorem oZ {H:View} {u:V} {sz f z:Nat} {es:List (List V)} {e:List (List V)} (ho:bc H u sz es) (hf:H f=.arr z e) (hz:sz≠z):owner u≠some f:=fun e2=>by
  have:=(ho.live e2).1
  rw[hf] at this
  simp only[cU.arr.injEq] at this
  exact hz this.1.symm
section
variable {P:Program} {T:Env} {H:View} {K:V→View→Prop} {w:cI (T,H,K)} {t t1 e ty:TypeId}
theorem L9 {x:Operand} {k:Nat} (he:cG P t=some e) (hx:ev T x=.emp k) (hk:K (aj 0) H):pz P (.call { callee:=.builtin .cap,args:=#[x],argTypes:=#[t] }) ty T H K w:=by
  intro n _
  refine ⟨aj 0,.none,[],?_,hk⟩
  simp[sI,bT,oper,C9,he,hx]
theorem Qe {s x:Operand} {k l sz bytes:Nat} {z:List V} (he:pG P t=some (sz,bytes,z)) (hd:m8 P t1=false) (hi:isInt P t1=true) (hs:ev T s=.emp k) (hx:ev T x=aj l) (h0:l≠0)
    (h1:l * bytes < aJ) (h2:l < aJ) (hk:∀ n,H n=.dead→K (.sl n 0 l sz) (H.set n (.arr sz (List.replicate l z)))) :
    pz P (.call { callee:=.builtin .append,args:=#[s,x],argTypes:=#[t,t1] }) ty T H K w:=by
  obtain ⟨e,ti,hse,_,hti,hz,hzl,hzok,hs0,rfl,rfl⟩:=jV he
  intro n hn
  refine ⟨.sl n 0 l ti.size,.new (.arr ti.size (List.replicate l z)),[],?_,hk n hn⟩
  have ha:asNat (aj l)=some l:=by simp[asNat,aj]
  have key:rU P t (.emp k) (aj l) n=some (.sl n 0 l ti.size,.new (.arr ti.size (List.replicate l z)),[]):=by
    unfold rU
    rw[hse,ha]
    simp only[hti,hz,if_neg h0]
    rw[if_pos ⟨hzl,hzok,hs0,h1,h2⟩]
  simp[sI,bT,oper,hd,hi,hs,hx,key]
end
def j9:SF:=⟨.seq (ak [((some 4),.op (.bo (.val (.emp 1))))]) <|
  .seq (.seq (ak [aa 5 1,az 6 .lss 5 0]) <|
  .cond (.tmp 6) (.region false [⟨none,[((some 7),.op (.old (.makeInterface 9 (.const (.string ⟨#[99,97,110,110,111,116,32,98,101,32,110,101,103,97,116,105,118,101]⟩))) 20)),(none,.op (.old (.panic (.tmp 7)) 0))]⟩]) (.skip)) <|
  .seq (.seq (ak [aa 8 1,aa 9 0,((some 10),.op (.old (.call { callee:=.builtin .cap,args:=#[(.tmp 9)],argTypes:=#[27] }) 3)),aa 11 0,aM 12 11,aR 13 .sub 10 12,aR 14 .sub 8 13,aa 1 14]) <|
  .seq (ak [aa 15 1,az 16 .gtr 15 0]) <|
  .cond (.tmp 16) (ak [aa 17 0,aa 18 0,((some 19),.op (.old (.call { callee:=.builtin .cap,args:=#[(.tmp 18)],argTypes:=#[27] }) 3)),((some 20),.op (.slice 1 (.tmp 17) none (some (.tmp 19)))),aa 21 1,((some 22),.op (.old (.call { callee:=.builtin .append,args:=#[(.tmp 20),(.tmp 21)],argTypes:=#[27,3] }) 27)),aa 23 0,aM 24 23,((some 25),.op (.slice 1 (.tmp 22) none (some (.tmp 24)))),aa 0 25]) (.skip)) <|
  .seq (ak [aa 26 0,aa 4 26]) <|
  .ret,
  [.tmp 4],27⟩
theorem pJ:aY Tryz.prog 147 []=some j9:=by kernel_rfl
def iG:SC :=
  .seq (ak [aR 12 .lss 11 10]) <|
  .seq (.cond (.tmp 12) (.skip) (.exit 0)) <|
  .seq (.block 1 (.seq (ak [aS 13 1 9 11,ao 14 13,aa 5 14]) <|
  .seq (ak [aa 15 3,aa 16 5,aM 17 16,aR 18 .add 15 17,aa 3 18]) <|
  .seq (ak [aa 19 3,az 20 .lss 19 0]) <|
  .cond (.tmp 20) (.region false [⟨none,[((some 21),.op (.old (.makeInterface 9 (.const (.string ⟨#[108,101,110,32,111,117,116,32,111,102,32,114,97,110,103,101]⟩))) 20)),(none,.op (.old (.panic (.tmp 21)) 0))]⟩]) (.skip))) <|
  ak [az 22 .add 11 1,aa 11 22]
def iJ:SC :=
  .seq (ak [aR 28 .lss 27 26]) <|
  .seq (.cond (.tmp 28) (.skip) (.exit 2)) <|
  .seq (.block 3 (.seq (ak [aS 29 1 25 27,ao 30 29,aa 8 30]) <|
  ak [aa 31 6,aa 32 8,((some 33),.op (.app 1 8 (.tmp 31) (.tmp 32))),aa 6 33])) <|
  ak [az 34 .add 27 1,aa 27 34]
def jm:SF:=⟨.seq (ak [((some 2),.op (.bo (.val (.emp 1))))]) <|
  .seq (ak [aI 3 0]) <|
  .seq (.seq (ak [aa 9 0,aM 10 9,aI 11 0]) <|
  .block 0 (.loop iG)) <|
  .seq (ak [aa 23 3,cZ 24 147 [(.val (.emp 1)),(.tmp 23)],aa 6 24]) <|
  .seq (.seq (ak [aa 25 0,aM 26 25,aI 27 0]) <|
  .block 2 (.loop iJ)) <|
  .seq (ak [aa 35 6,aa 2 35]) <|
  .ret,
  [.tmp 2],36⟩
theorem nY:aY Tryz.prog 102 []=some jm:=by kernel_rfl
theorem KI (n:Nat) (hn:n≤100000) (H:View):aC Tryz.prog 147 [.emp 1,gi n] H fun r H'=>(n=0∧r=.emp 1∧H'=H)∨(0 < n∧∃ m es,H m=.dead∧r=.sl m 0 0 1∧H'=H.set m (.arr 1 es)):=by
  refine aC.of mixed pJ ?_
  simp (disch:=omega) only [↓wr,↓reduceIte,wq,ah,ag,Nat.reduceEqDiff,Nat.reduceAdd,Nat.reduceLeDiff,j9]
  refine av.dec (fun h=>absurd h (by omega)) (fun _=>?_)
  simp (disch:=omega) only [↓wr,↓reduceIte,wq,Nat.reduceEqDiff,reduceCtorEq]
  refine L9 (k:=1) (e:=3) (by kernel_rfl) (by simp (disch:=omega) only [↓wr,↓reduceIte]) ?_
  simp (disch:=omega) only [↓wr,↓reduceIte,wq,ag,aj,Nat.reduceEqDiff,reduceCtorEq]
  refine av.dec (fun h=>?_) (fun h=>?_)
  · simp (disch:=omega) only [↓wr,↓reduceIte,wq,reduceCtorEq]
    refine L9 (k:=1) (e:=3) (by kernel_rfl) (by simp (disch:=omega) only [↓wr,↓reduceIte]) ?_
    simp (disch:=omega) only [↓wr,↓reduceIte,wq,aj,Nat.reduceEqDiff]
    rw[show dW 1 (.emp 1) none (some (.val (.int .i64 ((0:Nat):Int))))=some (.emp 1,.none,[]) from rfl]
    simp (disch:=omega) only [↓wr,↓reduceIte,wq,Nat.reduceEqDiff]
    refine Qe (k:=1) (l:=n) (sz:=1) (bytes:=8) (z:=[gi 0]) (by kernel_rfl) (by kernel_rfl) (by kernel_rfl) (by simp (disch:=omega) only [↓wr,↓reduceIte,Nat.reduceEqDiff]) (by simp (disch:=omega) only [↓wr,↓reduceIte,aj]; simp) (by omega) (by unfold aJ; omega) (by unfold aJ; omega) ?_
    intro m hm
    simp (disch:=omega) only [↓wr,↓reduceIte,wq,aj,Nat.reduceEqDiff,reduceCtorEq]
    rw[show dW 1 (.sl m 0 n 1) none (some (.val (.int .i64 ((0:Nat):Int))))=some (.sl m 0 0 1,.none,[]) by simp[dW,bound,asNat]]
    simp (disch:=omega) only [↓wr,↓reduceIte,wq,reduceCtorEq]
    exact .inr ⟨by omega,m,_,hm,rfl,rfl⟩
  · simp (disch:=omega) only [↓wr,↓reduceIte,wq,reduceCtorEq]
    exact .inl (by omega)
def y7 (H:View) (u:V) (l:List Int):Prop:=u=encI l∨bc H u 1 (bA l)
theorem y7.elems {H:View} {u:V} {l:List Int} (h:y7 H u l):∃ rd,bN H u=some (bA l,rd):=by
  rcases h with rfl | h
  · exact ⟨[],uQ _ _⟩
  generalize bA l=es0 at h
  rcases h with ⟨rfl,k,rfl⟩ | ⟨n,rfl,hn⟩
  · exact ⟨_,pv _ k⟩
  · cases es0 with
    | nil=>exact ⟨[],by simp[bN]⟩
    | cons e es =>
      exact ⟨_,by rw[show (e :: es).length=es.length+1 from rfl,xw _ n 0 es.length 1 1 _ hn (by simp),List.drop_zero,List.take_of_length_le (by simp)]⟩
theorem y7.len {H:View} {u:V} {l:List Int} (h:y7 H u l):dq u=some l.length:=by
  rcases h with rfl | h
  · simp[encI,dq]
  · rw[h.len]; simp
theorem y7.keep {H H':View} {u:V} {l:List Int} (h:y7 H u l) (hk:∀ id,H id≠.dead→H' id=H id):y7 H' u l:=by
  rcases h with rfl | h
  · exact .inl rfl
  · exact .inr (h.keep fun id hid=>hk id (by rw[(h.live hid).1]; simp))
def E9 (H:View) (u:V) (l:List Int):Prop:=bc H u 1 (bA l)∨(l=[]∧∃ m es,u=.sl m 0 0 1∧H m=.arr 1 es)
theorem KX {bytes:Nat} {u:V} {l xs:List Int} {H:View} {K:V→View→Prop} {w:cI (H,K)} (ho:E9 H u l) (hl:(l.length+xs.length) * bytes < aJ) (hl2:l.length+xs.length < aJ) (hb:bytes=8)
    (hk:∀ u' H',E9 H' u' (l ++ xs)→(bc H u 1 (bA l)→bc H' u' 1 (bA (l ++ xs)))→Left H H' u u'→K u' H'):jB 1 bytes u (bA xs) H K w:=by
  rcases ho with ho | ⟨rfl,m,es,rfl,hm⟩
  · exact gz ho (by simp[List.all_map,aU]) (by simpa using hl) (by simpa using hl2) fun u' H' h1 h2=>hk u' H' (.inl (by simpa using h1)) (fun _=>by simpa using h1) h2
  · cases xs with
    | nil=>exact hk _ _ (.inr ⟨rfl,m,es,rfl,hm⟩) (fun h=>by simpa using h) .refl
    | cons x xs =>
      rw[oR _ _ _ _ _ _ _ _ _ _ (by simp),hm]
      refine ⟨by simp[List.all_map,aU],⟨by simp,rfl,by simpa using hl,by simpa using hl2⟩,fun n hn=>hk _ _ (.inl (.inr ⟨n,by simp,by simp[View.set]⟩)) (fun _=>.inr ⟨n,by simp,by simp[View.set]⟩) fun id hid ho=>?_⟩
      have e:id≠n:=by rintro rfl; exact hid hn
      have e2:id≠m:=by rintro rfl; exact ho rfl
      exact ⟨by simp[View.set,e,e2],by simp[owner,Ne.symm e]⟩
set_option maxHeartbeats 4000000 in
theorem Mh (us:List (V × List Int)) (q:Nat) (H:View) (hq:H q=.arr 1 (us.map fun x=>[x.1])) (ha:∀ x∈us,y7 H x.1 x.2) (hl:(us.map (·.2)).flatten.length≤100000) (hu:us.length≤1000) :
    aC Tryz.prog 102 [.sl q 0 us.length 1] H fun r H'=>bc H' r 1 (bA (us.map (·.2)).flatten)∧fg H H' r:=by
  have hsum:∀ i,((us.take i).map (·.2)).flatten.length≤100000:=fun i=>by
    have:=List.take_append_drop i us
    have h2:(us.map (·.2)).flatten=((us.take i).map (·.2)).flatten ++ ((us.drop i).map (·.2)).flatten:=by rw[← List.flatten_append,← List.map_append,this]
    rw[h2,List.length_append] at hl; omega
  refine aC.of mixed nY ?_
  simp (disch:=omega) only [↓wr,↓reduceIte,wq,ah,aj,Nat.reduceLeDiff,reduceCtorEq,jm]
  refine ba.up us.length (fun i T H'=>H'=H∧T 0=.sl q 0 us.length 1∧T 3=gi ((us.take i).map (·.2)).flatten.length∧T 9=.sl q 0 us.length 1∧T 10=gi us.length∧T 11=gi i) ⟨rfl,rfl,rfl,rfl,rfl,rfl⟩ ?_
  rintro i k T H1 hk ⟨rfl,t0,t3,t9,t10,t11⟩
  simp (disch:=omega) only [↓wr,↓reduceIte,wq,ag,iG,t10,t11]
  refine av.dec (fun hi=>?_) (fun hi=>?_)
  · have h2:us[i]?=some (us[i]'(by omega)):=List.getElem?_eq_getElem (by omega)
    have hm:=List.mem_of_getElem? h2
    have htk:us.take (i+1)=us.take i ++ [us[i]'(by omega)]:=by rw[List.take_add_one,h2]; rfl
    have hs1:=hsum (i+1)
    have hgd:(us.map fun x=>[x.1]).getD i []=[(us[i]'(by omega)).1]:=by simp[List.getD_eq_getElem?_getD,h2]
    generalize us[i]'(by omega)=x at h2 hm htk hgd
    have hx:=(ha x hm).len
    rw[htk] at hs1
    simp only[List.map_append,List.map_cons,List.map_nil,List.flatten_append,List.flatten_cons,List.flatten_nil,List.append_nil,List.length_append] at hs1
    simp (disch:=omega) only [↓wr,↓reduceIte,wq,ag,aj,Nat.reduceEqDiff,Nat.reduceLT,t3,t9,t11,hq,hgd,hx]
    refine ⟨by omega,by omega,?_⟩
    refine av.dec (fun h=>absurd h (by omega)) (fun _=>?_)
    simp (disch:=omega) only [↓wr,↓reduceIte,wq,ag,Nat.reduceEqDiff,reduceCtorEq,t11]
    refine aV hk (by omega) ⟨rfl,t0,?_,t9,t10,rfl⟩
    rw[htk,List.map_append,List.flatten_append,List.length_append,List.map_cons,List.map_nil,List.flatten_cons,List.flatten_nil,List.append_nil]
    push_cast
    rfl
  · simp (disch:=omega) only [↓wr,↓reduceIte,wq,Nat.reduceEqDiff,reduceCtorEq,t3]
    have e:us.take i=us:=List.take_of_length_le (by omega)
    rw[e]
    refine aE.ff ((KI _ hl H1).mono ?_)
    intro r H2 hr
    have hro:E9 H2 r []∧fg H1 H2 r:=by
      rcases hr with ⟨_,rfl,rfl⟩ | ⟨_,m,es,hm,rfl,rfl⟩
      · exact ⟨.inl .nil,.emp⟩
      · exact ⟨.inr ⟨rfl,m,es,rfl,by simp[View.set]⟩,.new hm⟩
    have hlast:(us.map (·.2)).flatten.length=0→bc H2 r 1 (bA []):=fun h0=>by
      rcases hr with ⟨_,rfl,_⟩ | ⟨h1,_⟩
      · exact .nil
      · omega
    obtain ⟨hroom,hfr⟩:=hro
    simp (disch:=omega) only [↓wr,↓reduceIte,wq,aj,reduceCtorEq,t0]
    refine ba.up us.length (fun i T H'=>∃ u,T 6=u∧E9 H' u ((us.take i).map (·.2)).flatten∧((us.map (·.2)).flatten.length=0→bc H' u 1 (bA ((us.take i).map (·.2)).flatten))∧fg H1 H' u∧T 25=.sl q 0 us.length 1∧T 26=gi us.length∧T 27=gi i) ⟨r,rfl,hroom,hlast,hfr,rfl,rfl,rfl⟩ ?_
    rintro i k T H3 hk ⟨u,t6,ho,hz,hf,t25,t26,t27⟩
    simp (disch:=omega) only [↓wr,↓reduceIte,wq,ag,reduceCtorEq,iJ,t26,t27]
    refine av.dec (fun hi=>?_) (fun hi=>?_)
    · have h2:us[i]?=some (us[i]'(by omega)):=List.getElem?_eq_getElem (by omega)
      have hm:=List.mem_of_getElem? h2
      have htk:us.take (i+1)=us.take i ++ [us[i]'(by omega)]:=by rw[List.take_add_one,h2]; rfl
      have hs1:=hsum (i+1)
      have hgd:(us.map fun x=>[x.1]).getD i []=[(us[i]'(by omega)).1]:=by simp[List.getD_eq_getElem?_getD,h2]
      generalize us[i]'(by omega)=x at h2 hm htk hgd
      rw[htk,List.map_append,List.flatten_append,List.length_append,List.map_cons,List.map_nil,List.flatten_cons,List.flatten_nil,List.append_nil] at hs1
      have hq3:H3 q=.arr 1 (us.map fun x=>[x.1]):=by rw[(hf q (by rw[hq]; simp)).1,hq]
      obtain ⟨rd,he⟩:=((ha x hm).keep fun id hid=>(hf id hid).1).elems
      simp (disch:=omega) only [↓wr,↓reduceIte,wq,Nat.reduceEqDiff,Nat.reduceLT,t6,t25,t27,hq3,hgd,he]
      refine ⟨by omega,by omega,?_⟩
      refine KX ho (by unfold aJ; omega) (by unfold aJ; omega) rfl ?_
      intro u' H4 ho4 hz4 l4
      simp (disch:=omega) only [↓wr,↓reduceIte,wq,ag,Nat.reduceEqDiff,reduceCtorEq,t27]
      refine aV hk (by omega) ⟨u',rfl,?_,fun h0=>?_,fun id hid=>?_,t25,t26,rfl⟩
      · rw[htk]; simpa using ho4
      · rw[htk]; simpa using hz4 (hz h0)
      · obtain ⟨a,b⟩:=hf id hid
        obtain ⟨c,d⟩:=l4 id (by rw[a]; exact hid) b
        exact ⟨c.trans a,d⟩
    · simp (disch:=omega) only [↓wr,↓reduceIte,wq,Nat.reduceEqDiff,reduceCtorEq,t6]
      have e:us.take i=us:=List.take_of_length_le (by omega)
      rw[e] at ho hz
      refine ⟨?_,hf⟩
      rcases ho with ho | ⟨h0,m,es,rfl,hm⟩
      · exact ho
      · exact hz (by rw[h0]; rfl)
def gj (H:View) (u:V) (l:List Int):Prop:=∃ (id off:Nat) (es:List (List V)),u=.sl id off l.length 1∧H id=.arr 1 es∧off+l.length≤es.length∧(es.drop off).take l.length=bA l
theorem gj.len {H:View} {u:V} {l:List Int} (h:gj H u l):dq u=some l.length:=by
  obtain ⟨id,off,es,rfl,_⟩:=h; rfl
theorem gj.keep {H H':View} {u:V} {l:List Int} (h:gj H u l) (hk:∀ id es,H id=.arr 1 es→H' id=H id):gj H' u l:=by
  obtain ⟨id,off,es,h1,h2,h3,h4⟩:=h
  exact ⟨id,off,es,h1,by rw[hk id es h2]; exact h2,h3,h4⟩
theorem gj.fresh {H:View} {u:V} {l:List Int} (h:gj H u l) {n:Nat} {o:cU} (hn:H n=.dead):gj (H.set n o) u l :=
  h.keep fun id es hid=>by
    have:id≠n:=by rintro rfl; rw[hn] at hid; simp at hid
    simp[View.set,this]
theorem gj.own {H:View} {u:V} {l:List Int} (h:bc H u 1 (bA l)) (hl:l≠[]):gj H u l:=by
  rcases h with ⟨e,_⟩ | ⟨n,rfl,hn⟩
  · rw[List.map_eq_nil_iff] at e; exact absurd e hl
  · exact ⟨n,0,_,by simp,hn,by simp,by rw[List.drop_zero,List.take_of_length_le (by simp)]⟩
theorem Cs {bytes:Nat} {u:V} {l xs:List Int} {H:View} {K:V→View→Prop} {w:cI (H,K)} (ho:gj H u l) (hx:xs≠[])
    (hl:(l.length+xs.length) * bytes < aJ) (hl2:l.length+xs.length < aJ) (hk:∀ u' H',bc H' u' 1 (bA (l ++ xs))→Left H H' u u'→K u' H'):jB 1 bytes u (bA xs) H K w:=by
  have he:(bA xs).isEmpty=false:=by cases xs with | nil=>exact absurd rfl hx | cons=>rfl
  obtain ⟨id,off,es,rfl,h2,h3,h4⟩:=ho
  rw[oR _ _ _ _ _ _ _ _ _ _ he,h2]
  refine ⟨by simp[List.all_map,aU],⟨h3,rfl,by simpa using hl,by simpa using hl2⟩,fun m hm=>hk _ _ ?_ ?_⟩
  · refine .inr ⟨m,by simp,?_⟩
    rw[h4]; simp[View.set]
  · intro id' hid ho
    have e:id'≠m:=by rintro rfl; exact hid hm
    have e2:id'≠id:=by rintro rfl; exact ho rfl
    exact ⟨by simp[View.set,e,e2],by simp[owner,Ne.symm e]⟩
def sR (x:List Int × Int × Int):V:=.bf [encI x.1,gi x.2.1,gi x.2.2]
theorem Nr (x:List Int × Int × Int):Tree (sR x):=.bf _ fun i hi=>by
  match i,hi with
  | 0,_=>exact cF _
  | 1,_=>exact .val _
  | 2,_=>exact .val _
theorem wi {h:aH} {u:V} {x:List Int × Int × Int} (hu:bZ h u (encI x.1)):bZ h (.bf [u,gi x.2.1,gi x.2.2]) (sR x):=.bf _ _ rfl fun i hi=>by
  match i,hi with
  | 0,_=>exact hu
  | 1,_=>exact .val _
  | 2,_=>exact .val _
theorem gj.all {H:View} {u:V} {l:List Int} (h:gj H u l):∃ (id off:Nat) (es:List (List V)),u=.sl id off l.length 1∧H id=.arr 1 es∧off+l.length≤es.length∧∀ j,j < l.length→es.getD (off+j) []=[gi (l.getD j 0)]:=by
  obtain ⟨id,off,es,h1,h2,h3,h4⟩:=h
  refine ⟨id,off,es,h1,h2,h3,fun j hj=>?_⟩
  have h5:=congrArg (fun z=>z[j]?) h4
  simp only[List.getElem?_take,hj,if_true,List.getElem?_drop,List.getElem?_map,List.getElem?_eq_getElem hj,Option.map_some] at h5
  rw[List.getD_eq_getElem?_getD,h5,List.getD_eq_getElem?_getD,List.getElem?_eq_getElem hj]; rfl
theorem gj.take {H:View} {id off k:Nat} {l:List Int} (h:gj H (.sl id off k 1) l) {m:Nat} (hm:m≤l.length):gj H (.sl id off m 1) (l.take m):=by
  obtain ⟨id',off',es,h1,h2,h3,h4⟩:=h
  simp only[V.sl.injEq,and_true] at h1
  obtain ⟨rfl,rfl,rfl⟩:=h1
  refine ⟨id,off,es,by simp; omega,h2,by simp; omega,?_⟩
  have h5:=congrArg (List.take m) h4
  rw[List.take_take,show min m l.length=m by omega] at h5
  rw[show (l.take m).length=m by simp; omega,h5]
  exact List.map_take.symm
theorem Ak {id off k m:Nat} (hm:m≤k):dW 1 (.sl id off k 1) none (some (gi m))=some (.sl id off m 1,.none,[]):=by
  simp[dW,bound,asNat,hm]
theorem mz (g:ay) (t:dx) (w:List Int) (k:Nat) (st rs:List Int) (at_:Nat):iq g t w k st rs at_=(
    if (di t (cm st) (bY g w at_)).kind=3∧at_=w.length then (rs,(at_:Int),(0:Int))
    else if (di t (cm st) (bY g w at_)).kind=0∨(di t (cm st) (bY g w at_)).kind=3∨(di t (cm st) (bY g w at_)).kind=1∧at_=w.length then ([],(at_:Int),3)
    else match k with
      | 0=>([],(at_:Int),14)
      | k+1 =>
        if (di t (cm st) (bY g w at_)).kind=1 then iq g t w k (st ++ [(di t (cm st) (bY g w at_)).n]) rs (at_+1)
        else if st.length≤(bk g (di t (cm st) (bY g w at_)).n).right.length then ([],(at_:Int),3)
        else if jb t (cm (st.take (st.length - (bk g (di t (cm st) (bY g w at_)).n).right.length))) (bk g (di t (cm st) (bY g w at_)).n).left = -1 then ([],(at_:Int),3)
        else iq g t w k (st.take (st.length - (bk g (di t (cm st) (bY g w at_)).n).right.length) ++ [jb t (cm (st.take (st.length - (bk g (di t (cm st) (bY g w at_)).n).right.length))) (bk g (di t (cm st) (bY g w at_)).n).left])
          (rs ++ [(di t (cm st) (bY g w at_)).n]) at_):=by
  cases k <;> (conv=>lhs; unfold iq) <;> rfl
theorem Si {es:List (List V)} {off:Nat} {st:List Int} (h:∀ j,j < st.length→es.getD (off+j) []=[gi (st.getD j 0)]) (hs:0 < st.length):es.getD (off+((st.length:Int) - 1).toNat) []=[gi (cm st)]:=by
  have:=h (st.length - 1) (by omega)
  rw[show ((st.length:Int) - 1).toNat=st.length - 1 by omega,this,cm]
theorem LJ {g:ay} {w:List Int} (hw:∀ x∈w,0≤x∧x < (g.ax.length:Int)) (i:Nat):0≤bY g w i∧bY g w i≤g.ax.length:=by
  unfold bY
  split
  · rename_i h
    have:=hw _ (List.mem_of_getElem? (getD_some (d:=0) h))
    omega
  · omega
theorem ki (g:ay) (t:dx) (w:List Int):gU g t w=if (nH g w && j0 g t)=true then iq g t w 2000 [0] [] 0 else ([],0,1):=by
  unfold gU nH Pj
  rfl
theorem Pa (g:ay) (t:dx) (w:List Int):∀ v∈[V.agg (aw g),.agg (bu t),encI w],Tree v:=by
  intro v hv; simp at hv
  rcases hv with rfl | rfl | rfl
  · exact bL _ (bU g)
  · exact bL _ (uC t)
  · exact cF w
theorem OR {g:ay} {w:List Int} (h:nH g w=true):w.length≤60∧∀ x∈w,0≤x∧x < (g.ax.length:Int):=by
  unfold nH Pj at h
  simp only[Bool.and_eq_true,decide_eq_true_eq,List.all_eq_true] at h
  exact ⟨h.1.2,h.2⟩
theorem y8 {g:ay} {n:Nat} {c:Cell} (h:tN g n c=true):(c.kind=0∨c.kind=3)∨(c.kind=1∧0≤c.n∧c.n < n)∨(c.kind=2∧0≤c.n∧c.n < g.rules.length):=by
  unfold tN at h
  split at h
  · rename_i e; exact .inl e
  · split at h
    · rename_i e; simp at h; exact .inr (.inl ⟨e,h⟩)
    · split at h
      · rename_i e; simp at h; exact .inr (.inr ⟨e,h⟩)
      · simp at h
end Gv
