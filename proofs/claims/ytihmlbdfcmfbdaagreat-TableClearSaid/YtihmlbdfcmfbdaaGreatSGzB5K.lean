/-
  Part 11 of the proof: what the machine does and what the functions answer.
  Conditions: those that each lemma names.
-/
import Derived.Test.YtihmlbdfcmfbdaaGreatSGzB5J
set_option linter.unusedSimpArgs false
set_option linter.unusedVariables false
set_option maxRecDepth 100000
set_option maxHeartbeats 20000000
namespace Gv
open Go Go.Proofs
theorem bytes_beq (a b:ByteArray):(a == b)=decide (a=b):=by
 cases a with | mk a=>cases b with | mk b =>
 rw[abu]
 show (ByteArray.beq ⟨a⟩ ⟨b⟩=true)↔_
 simp only[ByteArray.beq]
 simp
theorem HE (a b:ByteArray):j8 a b=decide (a=b):=by
 cases a with | mk a=>cases b with | mk b =>
 rw[abu]
 simp[j8]
theorem rE {α:Type} {a b:List α} {i:Nat} {x y:α} (c:a[i]?=some x) (d:b[i]?=some y) (h:a.take i=b.take i) (e:x=y):a.take (i+1)=b.take (i+1):=by
 rw[aaQ,aaQ,h,c,d,e]
theorem uV {α:Type} {a b:List α} {i:Nat} (c:a.length<=i) (d:b.length<=i) (h:a.take i=b.take i):a=b:=by
 rwa [aaJ c,aaJ d] at h
theorem zT {α:Type} {a b:List α} {i:Nat} {x y:α} (d:a[i]?=some x) (c:b[i]?=some y) (e:x≠y):a≠b:=by
 rintro rfl;rw[d] at c;exact e (by simpa using c)
theorem vc {α:Type} {a b:List α} (h:¬ a.length=b.length):a≠b:=λe=>h (by rw[e])
theorem C2 (x y:Term):ik Tryz.prog 9998 #[.string x.name,.int .i64 x.level,.int .i64 x.assoc] #[.string y.name,.int .i64 y.level,.int .i64 y.assoc]
  [{ name:= "Name",type:=9,offset:=0,embedded:=false,tag:= "",pkgPath:= "",byteOffset:=0 },{ name:= "Level",type:=3,offset:=1,embedded:=false,tag:= "",pkgPath:= "",byteOffset:=16 },
   { name:= "Assoc",type:=3,offset:=2,embedded:=false,tag:= "",pkgPath:= "",byteOffset:=24 }] (x.name == y.name && (x.level == y.level && (x.assoc == y.assoc && true))) :=
 .str _ _ _ _ _ (by decide) Tryz.underlying9 rfl rfl (.int _ _ _ _ _ _ (by decide) Tryz.underlying3 rfl rfl (.int _ _ _ _ _ _ (by decide) Tryz.underlying3 rfl rfl .nil))
theorem Oo (x y:Term):(x.name == y.name && (x.level == y.level && (x.assoc == y.assoc && true)))=decide (x=y):=by
 rw[bytes_beq,abu]
 cases x;cases y
 simp
theorem W7 (a b:Int):(a == b)=decide (a=b):=by rw[abu];simp
theorem Ux (x y:bg):decide (x=y)=(decide (x.left=y.left) && (decide (x.prec=y.prec) && decide (x.right=y.right))):=by
 cases x;cases y
 rw[abu]
 simp[and_comm]
theorem KW (x y:ai):decide (x=y)=(decide (x.af=y.af) && (decide (x.ak=y.ak) && (decide (x.rules=y.rules) && decide (x.start=y.start)))):=by
 cases x;cases y
 rw[abu]
 simp
theorem HW (g k:ai):∀ v∈[V.agg (ag g),V.agg (ag k)],Tree v:=by
 intro v a;simp at a
 rcases a with rfl | rfl <;> exact cn _ (dq _)
def qq:SC :=
 ae [ae [ab [aa 42 5,ao 43 0 2,aj 44 43,aM 45 44,aQ 46 .lss 42 45],bS 46 (.exit 0)],.block 1 (ae [ab [ao 49 0 2,aj 50 49,aa 51 5,aI 52 3 50 51,aY 53 3 52,ao 54 0 3,aj 55 54,aa 56 5,aI 57 3 55 56,aY 58 3 57,((some 59),.op (.old (.binOp .neq 129 (.tmp 53) (.tmp 58) 129) 4))],bf 59 (ae [ab [bw 4 false],.ret])]),ab [aa 47 5,aF 48 .add 47 1,aa 5 48]]
def qD:SC :=
 ae [ae [ab [aa 60 6,ao 61 1 2,aj 62 61,aM 63 62,aQ 64 .lss 60 63],bS 64 (.exit 2)],.block 3 (ae [ab [ao 67 1 2,aj 68 67,aa 69 6,aI 70 1 68 69,aj 71 70,ao 72 1 3,aj 73 72,aa 74 6,aI 75 1 73 74,aj 76 75,((some 77),.op (.AB .neq (.tmp 71) (.tmp 76)))],bf 77 (ae [ab [bw 4 false],.ret])]),ab [aa 65 6,aF 66 .add 65 1,aa 6 66]]
def qC:SC :=
 ae [ae [ab [aa 78 7,ao 79 2 2,aj 80 79,aM 81 80,aQ 82 .lss 78 81],bS 82 (.exit 4)],.block 5 (ae [ab [ao 85 2 2,aj 86 85,aa 87 7,aI 88 3 86 87,aY 89 3 88,ao 90 2 3,aj 91 90,aa 92 7,aI 93 3 91 92,aY 94 3 93,((some 8),.op (.alloc [(.val (.int .i64 0)),(.emp 1),(.val (.int .i64 0))])),((some 9),.op (.alloc [(.val (.int .i64 0)),(.emp 1),(.val (.int .i64 0))])),bZ 3 8 89,bZ 3 9 94],.region false [⟨none,[ao 95 0 8,aj 96 95,ao 97 0 9,aj 98 97,aQ 99 .neq 96 98,aa 100 99]⟩,⟨(some (100,false)),[ao 101 2 8,aj 102 101,ao 103 2 9,aj 104 103,aQ 105 .neq 102 104]⟩,⟨none,[cF 106 100 105,aa 107 106]⟩,⟨(some (107,false)),[ao 108 1 8,aj 109 108,ao 110 1 9,aj 111 110,bm 112 37 [109,111],c4 113 112]⟩,⟨none,[cF 114 107 113]⟩],bf 114 (ae [ab [bw 4 false],.ret])]),ab [aa 83 7,aF 84 .add 83 1,aa 7 84]]
def tj:SF:=⟨ae [ab [cy 2 0,cy 3 1,bw 4 false],ae [.region false [⟨none,[ao 10 0 2,aj 11 10,aM 12 11,ao 13 0 3,aj 14 13,aM 15 14,aQ 16 .neq 12 15,aa 17 16]⟩,⟨(some (17,false)),[ao 18 1 2,aj 19 18,aM 20 19,ao 21 1 3,aj 22 21,aM 23 22,aQ 24 .neq 20 23]⟩,⟨none,[cF 25 17 24,aa 26 25]⟩,⟨(some (26,false)),[ao 27 2 2,aj 28 27,aM 29 28,ao 30 2 3,aj 31 30,aM 32 31,aQ 33 .neq 29 32]⟩,⟨none,[cF 34 26 33,aa 35 34]⟩,⟨(some (35,false)),[ao 36 3 2,aj 37 36,ao 38 3 3,aj 39 38,aQ 40 .neq 37 39]⟩,⟨none,[cF 41 35 40]⟩],bf 41 (ae [ab [bw 4 false],.ret])],ae [ab [aT 5 0],bX 0 qq],ae [ab [aT 6 0],bX 2 qD],ae [ab [aT 7 0],bX 4 qC],ab [bw 4 true],.ret],
 [.tmp 4],115⟩
theorem yg:aO Tryz.prog 36 [2,3]=some tj:=by kernel_rfl
theorem TK (g k:ai) (o:g.Ok):az Tryz.prog 36 [.agg (ag g),.agg (ag k)] (gb (decide (g=k))):=by
 refine az.val (HW g k) λH=>?_
 rw[KW]
 refine av.of mixed yg ?_
 have h1:=o.af
 have v:=o.ak
 have w:=o.rules
 unfold aK at h1 v w
 simp(disch:=omega)only[↓wr,seval,wq,tj,ag,encS]
 repeat' (first | ((first|apply ah.dec|apply ah.eq|apply ah.ne|apply ah.split)<;>intro)|(simp(disch:=omega)only[↓wr,seval,wq,ag,encS]))
 .rename_i e;rw[decide_eq_false (vc (by omega))];rfl
 .rename_i e;rw[decide_eq_false (p:=g.ak=k.ak) (vc (by omega))];simp
 .rename_i e;rw[decide_eq_false (p:=g.rules=k.rules) (vc (by omega))];simp
 .rename_i e;rw[decide_eq_false e];simp
 rename_i A B C z
 refine aS.up g.af.length (λi T _=>g.af.take i=k.af.take i/\T 2=.aH (ag g) 0/\T 3=.aH (ag k) 0/\T 5=gi i) ⟨by simp,rfl,rfl,rfl⟩ ?_
 rintro i m T H hm ⟨hi,t2,t3,t5⟩
 simp(disch:=omega)only[↓wr,seval,wq,qq,t2,t3,t5,ag,encS]
 apply ah.dec<;>intro d
 .have a:=aar (l:=g.af) (i:=i) (by omega)
  have b:=aar (l:=k.af) (i:=i) (by omega)
  generalize g.af[i]'(by omega)=x at a
  generalize k.af[i]'(by omega)=y at b
  simp(disch:=omega)only[↓wr,seval,wq,t2,t3,t5,aav,a,b,cm,ag,encS]
  refine iy (xs:=#[.string x.name,.int .i64 x.level,.int .i64 x.assoc]) (ys:=#[.string y.name,.int .i64 y.level,.int .i64 y.assoc]) Tryz.underlying129 (by kernel_rfl) (by kernel_rfl) ?_ ?_ (C2 x y) (.inr ⟨rfl,rfl⟩) ?_
  .rfl
  .rfl
  rw[Oo]
  simp(disch:=omega)only[↓wr,seval,wq,t2,t3,t5]
  apply ah.split<;>intro e
  .simp(disch:=omega)only[↓wr,seval,wq,t2,t3,t5]
   exact aC hm (by omega) ⟨rE a b hi (by simpa using e),t2,t3,rfl⟩
  .simp(disch:=omega)only[↓wr,seval,wq,t2,t3,t5]
   rw[decide_eq_false (zT a b (by simpa using e))];rfl
 have s:g.af=k.af:=uV (by omega) (by omega) hi
 simp(disch:=omega)only[↓wr,seval,wq,t2,t3,t5]
 clear hi d hm
 refine aS.up g.ak.length (λi T _=>g.ak.take i=k.ak.take i/\T 2=.aH (ag g) 0/\T 3=.aH (ag k) 0/\T 6=gi i) ⟨by simp,t2,t3,rfl⟩ ?_
 clear t2 t3 t5 T H i m
 rintro i m T H hm ⟨hi,t2,t3,t5⟩
 simp(disch:=omega)only[↓wr,seval,wq,qD,t2,t3,t5,ag,encS]
 apply ah.dec<;>intro d
 .have a:=aar (l:=g.ak) (i:=i) (by omega)
  have b:=aar (l:=k.ak) (i:=i) (by omega)
  generalize g.ak[i]'(by omega)=x at a
  generalize k.ak[i]'(by omega)=y at b
  simp(disch:=omega)only[↓wr,seval,wq,t2,t3,t5,aav,a,b,cm,ag,encS,HE]
  apply ah.split<;>intro e
  .simp(disch:=omega)only[↓wr,seval,wq,t2,t3,t5]
   exact aC hm (by omega) ⟨rE a b hi (by simpa using e),t2,t3,rfl⟩
  .simp(disch:=omega)only[↓wr,seval,wq,t2,t3,t5]
   rw[decide_eq_false (p:=g.ak=k.ak) (zT a b (by simpa using e))];simp
 have t:g.ak=k.ak:=uV (by omega) (by omega) hi
 simp(disch:=omega)only[↓wr,seval,wq,t2,t3,t5]
 clear hi d hm
 refine aS.up g.rules.length (λi T _=>g.rules.take i=k.rules.take i/\T 2=.aH (ag g) 0/\T 3=.aH (ag k) 0/\T 7=gi i) ⟨by simp,t2,t3,rfl⟩ ?_
 clear t2 t3 t5 T H i m
 rintro i m T H hm ⟨hi,t2,t3,t5⟩
 simp(disch:=omega)only[↓wr,seval,wq,qC,t2,t3,t5,ag,encS]
 apply ah.dec<;>intro d
 .have a:=aar (l:=g.rules) (i:=i) (by omega)
  have b:=aar (l:=k.rules) (i:=i) (by omega)
  have j:g.rules[i]'(by omega)∈g.rules:=aaC _
  generalize g.rules[i]'(by omega)=x at a j
  generalize k.rules[i]'(by omega)=y at b
  have q:=(o.ax x j).2.2.1
  simp(disch:=omega)only[↓wr,seval,wq,t2,t3,t5,aav,a,b,aU,encI,ag,encS]
  intro n D
  try simp(disch:=omega)only[↓wr,seval,wq,t2,t3,t5,aU,encI]
  intro E r
  have c:=(df r c7).1
  try simp(disch:=omega)only[↓wr,seval,wq,t2,t3,t5,aU,encI,c,c.symm]
  have f:x≠y->V.val (Value.bool false)=V.val (Value.bool (decide (g.af=k.af) && (decide (g.ak=k.ak) && (decide (g.rules=k.rules) && decide (g.start=k.start))))):=λe=>by
   rw[decide_eq_false (p:=g.rules=k.rules) (zT a b e)];simp
  repeat' (first | ((first|apply ah.dec|apply ah.eq|apply ah.ne|apply ah.split)<;>intro)|(refine ay.pure (W5 x.right y.right q) ?_)|(simp(disch:=omega)only[↓wr,seval,wq,t2,t3,t5,aU,encI,c,c.symm]))
  .rename_i e;exact f λh=>e (by rw[h])
  .rename_i e;exact f λh=>e (by rw[h])
  .rename_i u t s
   refine aC hm (by omega) ⟨rE a b hi ?_,t2,t3,rfl⟩
   cases x;cases y
   simp_all
  .rename_i e;exact f λh=>by rw[h] at e;simp at e
 .have u:g.rules=k.rules:=uV (by omega) (by omega) hi
  simp(disch:=omega)only[↓wr,seval,wq,t2,t3,t5]
  simp[s,t,u,z]
def iw:SC :=
 ae [ab [aQ 14 .lss 13 12],bS 14 (.exit 0),.block 1 (ae [ab [aa 15 13,aa 5 15],ab [aa 16 0,aa 17 5,aI 18 3 16 17,aY 19 3 18,aa 20 1,aa 21 5,aI 22 3 20 21,aY 23 3 22,((some 24),.op (.old (.binOp .neq 129 (.tmp 19) (.tmp 23) 129) 4))],bf 24 (ae [ab [bw 4 false],.ret])]),ab [aF 25 .add 13 1,aa 13 25]]
def iS:SF:=⟨ae [ab [bw 4 false],ae [ab [aa 6 0,aM 7 6,aa 8 1,aM 9 8,aQ 10 .neq 7 9],bf 10 (ae [ab [bw 4 false],.ret])],ae [ab [aa 11 0,aM 12 11,aT 13 0],bX 0 iw],ab [bw 4 true],.ret],
 [.tmp 4],26⟩
theorem lN:aO Tryz.prog 162 []=some iS:=by kernel_rfl
def jt:SC :=
 ae [ab [aQ 14 .lss 13 12],bS 14 (.exit 0),.block 1 (ae [ab [aa 15 13,aa 5 15],ab [aa 16 0,aa 17 5,aI 18 1 16 17,aj 19 18,aa 20 1,aa 21 5,aI 22 1 20 21,aj 23 22,((some 24),.op (.AB .neq (.tmp 19) (.tmp 23)))],bf 24 (ae [ab [bw 4 false],.ret])]),ab [aF 25 .add 13 1,aa 13 25]]
def jM:SF:=⟨ae [ab [bw 4 false],ae [ab [aa 6 0,aM 7 6,aa 8 1,aM 9 8,aQ 10 .neq 7 9],bf 10 (ae [ab [bw 4 false],.ret])],ae [ab [aa 11 0,aM 12 11,aT 13 0],bX 0 jt],ab [bw 4 true],.ret],
 [.tmp 4],26⟩
theorem nP:aO Tryz.prog 163 []=some jM:=by kernel_rfl
def kJ:SC :=
 ae [ab [aQ 14 .lss 13 12],bS 14 (.exit 0),.block 1 (ae [ab [aa 15 13,aa 5 15],ab [aa 16 0,aa 17 5,aI 18 1 16 17,aj 19 18,aa 20 1,aa 21 5,aI 22 1 20 21,aj 23 22,aQ 24 .neq 19 23],bf 24 (ae [ab [bw 4 false],.ret])]),ab [aF 25 .add 13 1,aa 13 25]]
def lT:SF:=⟨ae [ab [bw 4 false],ae [ab [aa 6 0,aM 7 6,aa 8 1,aM 9 8,aQ 10 .neq 7 9],bf 10 (ae [ab [bw 4 false],.ret])],ae [ab [aa 11 0,aM 12 11,aT 13 0],bX 0 kJ],ab [bw 4 true],.ret],
 [.tmp 4],26⟩
theorem r6:aO Tryz.prog 198 []=some lT:=by kernel_rfl
def C1:SF:=⟨ae [ab [cy 2 0,cy 3 1,bw 4 false],.region false [⟨none,[ao 5 0 2,aj 6 5,ao 7 0 3,aj 8 7,aQ 9 .eql 6 8,aa 10 9]⟩,⟨(some (10,true)),[ao 11 2 2,aj 12 11,ao 13 2 3,aj 14 13,aQ 15 .eql 12 14]⟩,⟨none,[eC 16 10 15,aa 17 16]⟩,⟨(some (17,true)),[ao 18 1 2,aj 19 18,ao 20 1 3,aj 21 20,bm 22 198 [19,21]]⟩,⟨none,[eC 23 17 22,aa 4 23]⟩],.ret],
 [.tmp 4],24⟩
theorem G1:aO Tryz.prog 165 [2,3]=some C1:=by kernel_rfl
def dR:SC :=
 ae [ab [aQ 18 .lss 17 16],bS 18 (.exit 0),.block 1 (ae [ab [aa 19 17,aI 20 3 15 17,aY 21 3 20,((some 8),.op (.alloc [(.val (.int .i64 0)),(.emp 1),(.val (.int .i64 0))])),aa 7 19,bZ 3 8 21],ab [aa 22 1,aa 23 7,aI 24 3 22 23,aY 25 3 24,((some 9),.op (.alloc [(.val (.int .i64 0)),(.emp 1),(.val (.int .i64 0))])),bZ 3 9 25],ab [aa 26 2,aY 27 3 8,aY 28 3 9,((some 29),.call (.tmp 26) [(.tmp 27),(.tmp 28)]),c4 30 29],bf 30 (ae [ab [bw 6 false],.ret])]),ab [aF 31 .add 17 1,aa 17 31]]
def dV:SF:=⟨ae [ab [bw 6 false],ae [ab [aa 10 0,aM 11 10,aa 12 1,aM 13 12,aQ 14 .neq 11 13],bf 14 (ae [ab [bw 6 false],.ret])],ae [ab [aa 15 0,aM 16 15,aT 17 0],bX 0 dR],ab [bw 6 true],.ret],
 [.tmp 6],32⟩
theorem gD:aO Tryz.prog 164 []=some dV:=by kernel_rfl
def Eu:SF:=⟨ae [ab [cy 2 0,cy 3 1,bw 4 false],.region false [⟨none,[ao 5 0 2,aj 6 5,ao 7 0 3,aj 8 7,bm 9 162 [6,8],aa 10 9]⟩,⟨(some (10,true)),[ao 11 1 2,aj 12 11,ao 13 1 3,aj 14 13,bm 15 163 [12,14]]⟩,⟨none,[eC 16 10 15,aa 17 16]⟩,⟨(some (17,true)),[ao 18 2 2,aj 19 18,ao 20 2 3,aj 21 20,qx 22 164 [(.tmp 19),(.tmp 21),(.val (.fn 165 [] []))]]⟩,⟨none,[eC 23 17 22,aa 24 23]⟩,⟨(some (24,true)),[ao 25 3 2,aj 26 25,ao 27 3 3,aj 28 27,aQ 29 .eql 26 28]⟩,⟨none,[eC 30 24 29,aa 4 30]⟩],.ret],
 [.tmp 4],31⟩
theorem Jh:aO Tryz.prog 110 [2,3]=some Eu:=by kernel_rfl
theorem R6 {α:Type} {f g:α->List V} {a b:List α} (d:∀ x,∀ v∈f x,Tree v) (e:∀ x,∀ v∈g x,Tree v):∀ v∈[V.aE (a.map f),V.aE (b.map g)],Tree v:=by
 intro v c;simp at c
 rcases c with rfl | rfl
 .exact fe _ _ λx _=>d x
 .exact fe _ _ λx _=>e x
theorem QG (a b:List Term) (l:aK a) (H:View):av Tryz.prog 162 [.aE (a.map cm),.aE (b.map cm)] H λr _=>r=gb (decide (a=b)):=by
 refine av.of mixed lN ?_
 unfold aK at l
 simp(disch:=omega)only[↓wr,seval,wq,iS]
 apply ah.ne<;>intro h
 .simp(disch:=omega)only[↓wr,seval,wq]
  rw[decide_eq_false (vc (by omega))]
 .simp(disch:=omega)only[↓wr,seval,wq]
  refine aS.up a.length (λi T _=>a.take i=b.take i/\T 0=.aE (a.map cm)/\T 1=.aE (b.map cm)/\T 12=gi a.length/\T 13=gi i) ⟨by simp,rfl,rfl,rfl,rfl⟩ ?_
  rintro i k T H hk ⟨hi,c,h1,d,f⟩
  simp(disch:=omega)only[↓wr,seval,wq,iw,c,h1,d,f]
  apply ah.dec<;>intro m
  .have g:a[i]?=some (a[i]'(by omega)):=aar (by omega)
   have j:b[i]?=some (b[i]'(by omega)):=aar (by omega)
   generalize a[i]'(by omega)=x at g
   generalize b[i]'(by omega)=y at j
   simp(disch:=omega)only[↓wr,seval,wq,c,h1,d,f,aav,g,j,cm]
   refine iy (xs:=#[.string x.name,.int .i64 x.level,.int .i64 x.assoc]) (ys:=#[.string y.name,.int .i64 y.level,.int .i64 y.assoc]) Tryz.underlying129 (by kernel_rfl) (by kernel_rfl) ?_ ?_ (C2 x y) (.inr ⟨rfl,rfl⟩) ?_
   .rfl
   .rfl
   rw[Oo]
   simp(disch:=omega)only[↓wr,seval,wq,c,h1,d,f]
   apply ah.split<;>intro e
   .simp(disch:=omega)only[↓wr,seval,wq,c,h1,d,f]
    exact aC hk (by omega) ⟨rE g j hi (by simpa using e),c,h1,d,rfl⟩
   .simp(disch:=omega)only[↓wr,seval,wq,c,h1,d,f]
    rw[decide_eq_false (zT g j (by simpa using e))]
  .simp(disch:=omega)only[↓wr,seval,wq,c,h1,d,f]
   rw[acx (uV (by omega) (by omega) hi)]
theorem TA (a b:List ByteArray) (l:aK a) (H:View):av Tryz.prog 163 [encS a,encS b] H λr _=>r=gb (decide (a=b)):=by
 refine av.of mixed nP ?_
 unfold aK at l
 simp(disch:=omega)only[↓wr,seval,wq,jM,encS]
 apply ah.ne<;>intro h
 .simp(disch:=omega)only[↓wr,seval,wq]
  rw[decide_eq_false (vc (by omega))]
 .simp(disch:=omega)only[↓wr,seval,wq]
  refine aS.up a.length (λi T _=>a.take i=b.take i/\T 0=encS a/\T 1=encS b/\T 12=gi a.length/\T 13=gi i) ⟨by simp,rfl,rfl,rfl,rfl⟩ ?_
  rintro i k T H hk ⟨hi,c,h1,d,f⟩
  simp(disch:=omega)only[↓wr,seval,wq,jt,c,h1,d,f,encS]
  apply ah.dec<;>intro m
  .have g:a[i]?=some (a[i]'(by omega)):=aar (by omega)
   have j:b[i]?=some (b[i]'(by omega)):=aar (by omega)
   generalize a[i]'(by omega)=x at g
   generalize b[i]'(by omega)=y at j
   simp(disch:=omega)only[↓wr,seval,wq,c,h1,d,f,encS,aav,g,j,HE]
   apply ah.split<;>intro e
   .simp(disch:=omega)only[↓wr,seval,wq,c,h1,d,f]
    exact aC hk (by omega) ⟨rE g j hi (by simpa using e),c,h1,d,rfl⟩
   .simp(disch:=omega)only[↓wr,seval,wq,c,h1,d,f]
    rw[decide_eq_false (zT g j (by simpa using e))]
  .simp(disch:=omega)only[↓wr,seval,wq,c,h1,d,f]
   rw[acx (uV (by omega) (by omega) hi)]
theorem Te (a b:List Int) (l:aK a) (H:View):av Tryz.prog 198 [encI a,encI b] H λr _=>r=gb (decide (a=b)):=by
 refine av.of mixed r6 ?_
 unfold aK at l
 simp(disch:=omega)only[↓wr,seval,wq,lT,encI]
 apply ah.ne<;>intro h
 .simp(disch:=omega)only[↓wr,seval,wq]
  rw[decide_eq_false (vc (by omega))]
 .simp(disch:=omega)only[↓wr,seval,wq]
  refine aS.up a.length (λi T _=>a.take i=b.take i/\T 0=encI a/\T 1=encI b/\T 12=gi a.length/\T 13=gi i) ⟨by simp,rfl,rfl,rfl,rfl⟩ ?_
  rintro i k T H hk ⟨hi,c,h1,d,f⟩
  simp(disch:=omega)only[↓wr,seval,wq,kJ,c,h1,d,f,encI]
  apply ah.dec<;>intro m
  .have g:a[i]?=some (a[i]'(by omega)):=aar (by omega)
   have j:b[i]?=some (b[i]'(by omega)):=aar (by omega)
   generalize a[i]'(by omega)=x at g
   generalize b[i]'(by omega)=y at j
   simp(disch:=omega)only[↓wr,seval,wq,c,h1,d,f,encI,aav,g,j]
   apply ah.ne<;>intro e
   .simp(disch:=omega)only[↓wr,seval,wq,c,h1,d,f]
    rw[decide_eq_false (zT g j e)]
   .simp(disch:=omega)only[↓wr,seval,wq,c,h1,d,f]
    exact aC hk (by omega) ⟨rE g j hi e,c,h1,d,rfl⟩
  .simp(disch:=omega)only[↓wr,seval,wq,c,h1,d,f]
   rw[acx (uV (by omega) (by omega) hi)]
theorem Ub (a b:List Term) (c:aK a):az Tryz.prog 162 [.aE (a.map cm),.aE (b.map cm)] (gb (decide (a=b))):=az.val (R6 vS vS) (QG a b c)
theorem TF (a b:List ByteArray) (d:aK a):az Tryz.prog 163 [encS a,encS b] (gb (decide (a=b))):=az.val (by
 intro v c;simp at c
 rcases c with rfl | rfl <;> exact AQ _) (TA a b d)
theorem Q5 (a b:List Int) (d:aK a):az Tryz.prog 198 [encI a,encI b] (gb (decide (a=b))):=az.val (by
 intro v c;simp at c
 rcases c with rfl | rfl <;> exact fa _) (Te a b d)
theorem Wb (x y:bg) (b:aK x.right):az Tryz.prog 165 [.agg (aU x),.agg (aU y)] (gb (decide (x=y))):=by
 refine az.val (by
  intro v a;simp at a
  rcases a with rfl | rfl <;> exact cn _ (iQ _)) λH=>?_
 rw[Ux]
 refine av.of mixed G1 ?_
 simp(disch:=omega)only[↓wr,seval,wq,C1,aU,encI]
 repeat' (first | ((first|apply ah.dec|apply ah.eq|apply ah.ne|apply ah.split)<;>intro)|(refine ay.pure (Q5 x.right y.right b) ?_)|(simp(disch:=omega)only[↓wr,seval,wq,aU]))
 all_goals simp[*]
theorem Lo (a b:List bg) (s:aK a) (hr:∀ r∈a,aK r.right) (H:View):av Tryz.prog 164 [.aE (a.map aU),.aE (b.map aU),.fn 165 [] []] H λr _=>r=gb (decide (a=b)):=by
 refine av.of mixed gD ?_
 unfold aK at s
 simp(disch:=omega)only[↓wr,seval,wq,dV]
 apply ah.ne<;>intro h
 .simp(disch:=omega)only[↓wr,seval,wq]
  rw[decide_eq_false (vc (by omega))]
 .simp(disch:=omega)only[↓wr,seval,wq]
  refine aS.up a.length (λi T _=>a.take i=b.take i/\T 15=.aE (a.map aU)/\T 1=.aE (b.map aU)/\T 2=.fn 165 [] []/\T 16=gi a.length/\T 17=gi i) ⟨by simp,rfl,rfl,rfl,rfl,rfl⟩ ?_
  rintro i k T H hk ⟨hi,c,h1,d,f,g⟩
  simp(disch:=omega)only[↓wr,seval,wq,dR,c,h1,d,f,g]
  apply ah.dec<;>intro t
  .have j:a[i]?=some (a[i]'(by omega)):=aar (by omega)
   have l:b[i]?=some (b[i]'(by omega)):=aar (by omega)
   have hm:a[i]'(by omega)∈a:=aaC _
   generalize a[i]'(by omega)=x at j hm
   generalize b[i]'(by omega)=y at l
   have p:=hr x hm
   simp(disch:=omega)only[↓wr,seval,wq,c,h1,d,f,g,aav,j,l,aU,encI]
   intro n u
   try simp(disch:=omega)only[↓wr,seval,wq,c,h1,d,f,g,aav,j,l,aU,encI]
   intro m q
   have o:=(df q c7).1
   try simp(disch:=omega)only[↓wr,seval,wq,c,h1,d,f,g,aav,j,l,aU,encI,o,o.symm]
   refine ay.pure (Wb x y p) ?_
   simp(disch:=omega)only[↓wr,seval,wq,c,h1,d,f,g]
   apply ah.split<;>intro e
   .simp(disch:=omega)only[↓wr,seval,wq,c,h1,d,f,g]
    exact aC hk (by omega) ⟨rE j l hi (by simpa using e),c,h1,d,f,rfl⟩
   .simp(disch:=omega)only[↓wr,seval,wq,c,h1,d,f,g]
    rw[decide_eq_false (zT j l (by simpa using e))]
  .simp(disch:=omega)only[↓wr,seval,wq,c,h1,d,f,g]
   rw[acx (uV (by omega) (by omega) hi)]
theorem LR (a b:List bg) (d:aK a) (hr:∀ r∈a,aK r.right):az Tryz.prog 164 [.aE (a.map aU),.aE (b.map aU),.fn 165 [] []] (gb (decide (a=b))):=az.val (by
 intro v c;simp at c
 rcases c with rfl | rfl | rfl
 .exact fe _ _ λx _=>iQ x
 .exact fe _ _ λx _=>iQ x
 .exact G6 (by simp) (by simp)) (Lo a b d hr)
theorem Vt (g k:ai) (a:g.Ok):az Tryz.prog 110 [.agg (ag g),.agg (ag k)] (gb (decide (g=k))):=by
 refine az.val (HW g k) λH=>?_
 rw[KW]
 refine av.of mixed Jh ?_
 simp(disch:=omega)only[↓wr,seval,wq,Eu,ag,encS]
 repeat' (first | ((first|apply ah.dec|apply ah.eq|apply ah.ne|apply ah.split)<;>intro)|(refine ay.pure (Ub g.af k.af a.af) ?_)|(refine ay.pure (TF g.ak k.ak a.ak) ?_)|(refine ay.pure (LR g.rules k.rules a.rules (λr hr=>(a.ax r hr).2.2.1)) ?_)|(simp(disch:=omega)only[↓wr,seval,wq,ag,encS]))
 all_goals simp_all [W7]
def Ie:SF:=⟨ae [ab [cy 1 0,bw 2 false],ab [aY 7 4 1,bm 8 109 [7],aa 6 8,eP 9 0 6,eP 10 1 6,eP 11 2 6,((some 3),.op (.alloc [(.emp 1),(.emp 1),(.emp 1),(.val (.int .i64 0))])),bZ 4 3 9,aa 4 10,aa 5 11],.region false [⟨none,[aa 12 5,aF 13 .eql 12 0,aa 14 13]⟩,⟨(some (14,true)),[aY 15 4 1,aY 16 4 3,bm 17 110 [15,16]]⟩,⟨none,[eC 18 14 17,aa 2 18]⟩],.ret],
 [.tmp 2],19⟩
theorem KA:aO Tryz.prog 61 [1]=some Ie:=by kernel_rfl
def vh:SF:=⟨ae [ab [cy 1 0,bw 2 false],ab [aY 7 4 1,bm 8 70 [7],aa 6 8,eP 9 0 6,eP 10 1 6,eP 11 2 6,((some 3),.op (.alloc [(.emp 1),(.emp 1),(.emp 1),(.val (.int .i64 0))])),bZ 4 3 9,aa 4 10,aa 5 11],.region false [⟨none,[aa 12 5,aF 13 .eql 12 0,aa 14 13]⟩,⟨(some (14,true)),[aY 15 4 1,aY 16 4 3,bm 17 36 [15,16]]⟩,⟨none,[eC 18 14 17,aa 2 18]⟩],.ret],
 [.tmp 2],19⟩
theorem AK:aO Tryz.prog 30 [1]=some vh:=by kernel_rfl
theorem Rp (g:ai) (a:g.Ok) (hs:g.Small):az Tryz.prog 61 [.agg (ag g)] (gb (isRed g)):=by
 refine az.val (eK g) λH=>?_
 refine av.of mixed KA ?_
 simp(disch:=omega)only[↓wr,seval,wq,Ie,ag,encS]
 refine ay.pure (OZ g a hs).pure ?_
 unfold isRed
 generalize gL g=x
 obtain⟨k,il,e⟩:=x
 simp(disch:=omega)only[↓wr,seval,wq,z7,ag,encS]
 intro n b
 apply ah.eq<;>intro h
 .simp(disch:=omega)only[↓wr,seval,wq,z7,ag,encS]
  refine ay.pure (Vt g k a) ?_
  simp(disch:=omega)only[↓wr,seval,wq]
  simp[h]
 .simp(disch:=omega)only[↓wr,seval,wq]
  simp[h]
theorem XT (g:ai) (a:g.Ok):az Tryz.prog 30 [.agg (ag g)] (gb (isRed g)):=by
 refine az.val (eK g) λH=>?_
 refine av.of mixed AK ?_
 simp(disch:=omega)only[↓wr,seval,wq,vh,ag,encS]
 refine ay.pure (MB g a).pure ?_
 unfold isRed
 generalize gL g=x
 obtain⟨k,il,e⟩:=x
 simp(disch:=omega)only[↓wr,seval,wq,z7,ag,encS]
 intro n b
 apply ah.eq<;>intro h
 .simp(disch:=omega)only[↓wr,seval,wq,z7,ag,encS]
  refine ay.pure (TK g k a) ?_
  simp(disch:=omega)only[↓wr,seval,wq]
  simp[h]
 .simp(disch:=omega)only[↓wr,seval,wq]
  simp[h]
def Y0:ai:=⟨[⟨⟨#[39,97,39]⟩,0,0⟩,⟨⟨#[39,98,39]⟩,0,0⟩,⟨⟨#[39,99,39]⟩,0,0⟩,⟨⟨#[39,100,39]⟩,0,0⟩],[⟨#[115]⟩,⟨#[117]⟩,⟨#[118]⟩],[⟨0,[0,(-2)],0⟩,⟨0,[1],1⟩,⟨0,[],(-1)⟩,⟨1,[(-2),2],2⟩,⟨2,[3,(-1)],3⟩],0⟩
def Yo:ai:=⟨Y0.af,[⟨#[115]⟩],[⟨0,[1],1⟩,⟨0,[],(-1)⟩],0⟩
theorem rC:isRed Yo=true:=by kernel_rfl
theorem dB.fr {h:aG} {v t:V} (f:dB h v t):Fr h v t:=by
 induction f with
 | val v=>exact .tree _ (.val _)
 | emp k=>exact .emp k
 | sl id off len esz z es es' h1 c d e _ b=>exact .sl id off len esz z es es' h1 c d e b
 | agg cs a h1 _ b=>exact .agg cs a h1 b
 | bD cs a h1 _ b=>exact .bD cs a h1 b
def bP {κ:Type} (kv:κ->V) (m:bY κ):List (V × V × Nat):=m.map λx=>(kv x.1,x.2.1,x.2.2)
structure LL {κ:Type} [BEq κ] (P:Program) (kt:TypeId) (kv:κ->V):Prop where
 find:∀ k e m,oD P kt (kv k) e (bP kv m)=some (iF k m)
 same:∀ k,sameKey (kv k) (kv k)=true
def ix {κ:Type} (m:bY κ) (c:Nat):Prop:=(m.map (·.2.2)).Nodup/\∀ x∈m,x.2.2 < c
def kP {κ:Type} [BEq κ] (m:bY κ) (k:κ):Option Nat:=(m.find? λx=>k == x.1).map (·.2.2)
section
variable {κ:Type} [BEq κ] [LawfulBEq κ] {kv:κ->V}
theorem oR (k:κ):∀ m:bY κ,match iF k m with
  | some i=>∃ x,m[i]?=some x/\x.1=k/\getM m k=some x.2.1/\kP m k=some x.2.2/\(bP kv m)[i]?=some (kv k,x.2.1,x.2.2)/\∀ v c,(bP kv m).set i (kv k,v,x.2.2)=bP kv (bN k v c m)/\kP (bN k v c m) k=some x.2.2/\(bN k v c m).map (·.2.2)=m.map (·.2.2)
  | none=>getM m k=none/\kP m k=none/\∀ v c,bP kv m ++ [(kv k,v,c)]=bP kv (bN k v c m)/\kP (bN k v c m) k=some c/\(bN k v c m).map (·.2.2)=m.map (·.2.2) ++ [c]
 | []=>⟨rfl,rfl,λv c=>⟨rfl,by simp[bN,kP],rfl⟩⟩
 | x :: r=>by
  have a:=oR k r
  simp only[iF]
  cases hk:k == x.1 with
  | true =>
   have b:x.1=k:=(eq_of_beq hk).symm
   exact⟨x,rfl,b,by simp[getM,hk],by simp[kP,hk],by simp[bP,b],λv c=>by simp[bN,hk,bP,kP]⟩
  | false =>
   simp only[aaU,if_false]
   cases hi:iF k r with
   | some i =>
    rw[hi] at a
    obtain⟨y,h1,d,e,f,g,h⟩:=a
    refine⟨y,by simpa using h1,d,by simpa [getM,hk] using e,by simpa [kP,hk] using f,by simpa [bP] using g,λv c=>?_⟩
    obtain⟨g1,g2,g3⟩:=h v c
    exact⟨by simp only[bP] at g1 ⊢;simp[bN,hk,g1],by simpa [bN,hk,kP] using g2,by simp[bN,hk,g3]⟩
   | none =>
    rw[hi] at a
    refine⟨by simpa [getM,hk] using a.1,by simpa [kP,hk] using a.2.1,λv c=>?_⟩
    obtain⟨g1,g2,g3⟩:=a.2.2 v c
    exact⟨by simp only[bP] at g1 ⊢;simp[bN,hk,g1],by simpa [bN,hk,kP] using g2,by simp[bN,hk,g3]⟩
theorem ix.put {m:bY κ} {c:Nat} (h:ix m c) (k:κ) (v:V):ix (bN k v c m) (c+1):=by
 have f:=oR (kv:=λ_=>V.any) k m
 cases i:iF k m with
 | some j =>
  rw[i] at f
  obtain⟨y,_,_,_,_,_,n⟩:=f
  have e:=(n v c).2.2
  refine⟨by rw[e];exact h.1,λx g=>?_⟩
  have:x.2.2∈m.map (·.2.2):=by rw[<-e];exact aaM.2 ⟨x,g,rfl⟩
  obtain⟨y,d,o⟩:=aaM.1 this
  have:=h.2 y d
  omega
 | none =>
  rw[i] at f
  have e:=(f.2.2 v c).2.2
  refine⟨?_,λx g=>?_⟩
  .rw[e,abr]
   refine⟨h.1,by simp,λa p b l=>?_⟩
   simp at l;subst l
   obtain⟨y,d,rfl⟩:=aaM.1 p
   have:=h.2 y d
   omega
  .have:x.2.2∈m.map (·.2.2) ++ [c]:=by rw[<-e];exact aaM.2 ⟨x,g,rfl⟩
   rcases aaZ.1 this with h1 | h1
   .obtain⟨y,d,o⟩:=aaM.1 h1
    have:=h.2 y d
    omega
   .simp at h1;omega
theorem ix.UQ {m:bY κ} {c:Nat} (h:ix m c) {k:κ} {b:Nat} (d:kP m k=some b) (v:V) (f:Nat):ix (bN k v f m) c:=by
 have a:=oR (kv:=λ_=>V.any) k m
 cases g:iF k m with
 | some j =>
  rw[g] at a
  obtain⟨y,_,_,_,_,_,i⟩:=a
  have e:=(i v f).2.2
  refine⟨by rw[e];exact h.1,λx l=>?_⟩
  have:x.2.2∈m.map (·.2.2):=by rw[<-e];exact aaM.2 ⟨x,l,rfl⟩
  obtain⟨y,n,o⟩:=aaM.1 this
  have:=h.2 y n
  omega
 | none =>
  rw[g] at a
  rw[a.2.1] at d;simp at d
omit [BEq κ] [LawfulBEq κ] in
theorem find_born (b:Nat):∀ (m:bY κ) (i:Nat) (x:κ × V × Nat),(m.map (·.2.2)).Nodup->m[i]?=some x->x.2.2=b->(bP kv m).findIdx? (λe=>e.2.2 == b)=some i
 | [],i,x,_,h,_=>by simp at h
 | y :: m,0,x,a,h,e=>by
  simp at h;subst h
  simp[bP,List.findIdx?_cons,e]
 | y :: m,i+1,x,a,h,e=>by
  simp only[aaW,abo] at a
  have h:m[i]?=some x:=by simpa using h
  have f:x∈m:=aax h
  have c:¬ y.2.2=b:=λg=>a.1 (by rw[g,<-e];exact aaM.2 ⟨x,f,rfl⟩)
  have d:=find_born b m i x a.2 h e
  simp only[bP] at d
  simp[bP,List.findIdx?_cons,c,d]
variable {P:Program} {T:Env} {H:View} {kt et t ty:TypeId}
theorem Jm {K:V->View->Prop} {w:cO (T,H,K)} {x i:Operand} {z:V} {id c:Nat} {m:bY κ} {k:κ} (hm:dQ P t=some (kt,et)) (d:zeroV P et=some z) (hk:LL P kt kv)
  (e:ev T x=.mp id) (hi:ev T i=kv k) (hH:H id=.map (bP kv m) c) (h:K ((getM m k).getD z) H):km P (.lookup t x i false) ty T H K w:=by
 intro n _
 have f:=hk.find k (bP kv m).isEmpty m
 have a:=oR (kv:=kv) k m
 refine⟨(getM m k).getD z,.none,[id],?_,h⟩
 simp only[sI,cD,oper,gM,hm,d,e,hi,hH,f]
 cases b:iF k m with
 | some j =>
  rw[b] at a
  obtain⟨y,h1,o,g,p,l,_⟩:=a
  simp[l,g]
 | none =>
  rw[b] at a
  simp[a.1]
theorem Ra {z:V} {id c:Nat} {m:bY κ} {k:κ} (hm:dQ P t=some (kt,et)) (l:zeroV P et=some z) (hk:LL P kt kv) (hH:H id=.map (bP kv m) c) (e:ix m c) :
  ∃ b f,e9 P t (.mp id) (kv k) H=some (.bD [(getM m k).getD z,iW b],.fQ id (.map (bP kv (bN k ((getM m k).getD z) c m)) f),[id])/\ix (bN k ((getM m k).getD z) c m) f/\kP (bN k ((getM m k).getD z) c m) k=some b:=by
 have d:=hk.find k false m
 have a:=oR (kv:=kv) k m
 cases g:iF k m with
 | some j =>
  rw[g] at a d
  obtain⟨y,h1,p,h,n,o,i⟩:=a
  refine⟨y.2.2,c,?_,?_,?_⟩
  .simp only[e9,hm,hH,d,o,hk.same k,if_true,h,aaL]
   rw[(i y.2.1 c).1]
  .exact e.UQ n _ _
  .rw[h];exact(i _ c).2.1
 | none =>
  rw[g] at a d
  refine⟨c,c+1,?_,e.put k _,?_⟩
  .simp only[e9,hm,hH,d,l,a.1,Option.getD_none]
   rw[(a.2.2 z c).1]
  .rw[a.1];exact(a.2.2 _ c).2.1
theorem XW {K:V->View->Prop} {w:cO (T,H,K)} {x i:Operand} {z:V} {id c:Nat} {m:bY κ} {k:κ} (hm:dQ P t=some (kt,et)) (d:zeroV P et=some z) (hk:LL P kt kv)
  (e:ev T x=.mp id) (hi:ev T i=kv k) (hH:H id=.map (bP kv m) c) (f:ix m c)
  (h:∀ b a,ix (bN k ((getM m k).getD z) c m) a->kP (bN k ((getM m k).getD z) c m) k=some b->K (.bD [(getM m k).getD z,iW b]) (H.set id (.map (bP kv (bN k ((getM m k).getD z) c m)) a))):km P (.mapEntry t x i) ty T H K w:=by
 intro n _
 obtain⟨b,a,h1,g,j⟩:=Ra (k:=k) hm d hk hH f
 refine⟨.bD [(getM m k).getD z,iW b],.fQ id (.map (bP kv (bN k ((getM m k).getD z) c m)) a),[id],?_,h b a g j⟩
 simp only[sI,cD,oper,e,hi]
 exact h1
theorem YM {K:V->View->Prop} {w:cO (T,H,K)} {x s y:Operand} {id c b:Nat} {m:bY κ} {k:κ} {v:V} (i:ev T x=.mp id) (hs:ev T s=iW b) (l:ev T y=v) (hH:H id=.map (bP kv m) c) (o:ix m c) (a:kP m k=some b)
  (h:∀ c0,K .any (H.set id (.map (bP kv (bN k v c0 m)) c))):km P (.entryStore t x s y) ty T H K w:=by
 intro n _
 have d:=oR (kv:=kv) k m
 cases g:iF k m with
 | none=>rw[g] at d;rw[d.2.1] at a;simp at a
 | some j =>
  rw[g] at d
  obtain⟨z,h1,A,B,f,p,q⟩:=d
  rw[a] at f
  have e:z.2.2=b:=by simp at f;exact f.symm
  have r:=find_born (kv:=kv) b m j z o.1 h1 e
  refine⟨.any,.fQ id (.map (bP kv (bN k v c m)) c),[id],?_,h c⟩
  have u:asNat (iW b)=some b:=by simp[asNat,iW]
  simp only[sI,cD,oper,i,hs,l,lI,u,hH,r,p]
  rw[(q v c).1]
end
theorem BT {P:Program} {α:Type} (x:α):bL P (pure x:Sem α)=some x:=rfl
def WI:List Int:=[37,37,32,115,32,58,32,39,97,39,32,115,32,124,32,59]
def sq:ai:=⟨[⟨⟨#[39,97,39]⟩,0,0⟩],[⟨#[115]⟩],[⟨0,[0,(-1)],0⟩,⟨0,[],(-1)⟩],0⟩
theorem Zb:cW Tryz.prog 49 [Ec WI] (uM sq):=Ov (by kernel_rfl)
section
variable {g:ai} {p:List Int} {T:Tb} {N:Nat}
end
theorem ew.U9 {H:View} {u:V} {l:List Int} (h:ba H u 1 (bK l)):ew H u (encI l):=ew.own h λe he v a=>by
 obtain⟨x,_,rfl⟩:=aaM.1 he
 simp at a;subst a;exact .val _
section
variable {g r:ai} {p q:List Bool} {o:List Int}
end
section
variable {fit:List Int->Bool} {T b:Nat}
end
def YV (l:List (List Int)):V:=.aE (l.map λw=>[encI w])
abbrev Zj:=List (V × List Int)
def GL (b:Zj):List (List V):=b.map λx=>[x.1]
def UR (H:View) (u:V) (out:List (List Int)):Prop:=∃ b:Zj,b.map (·.2)=out/\ba H u 1 (GL b)/\∀ x∈b,ba H x.1 1 (bK x.2)
theorem UR.frn {h:aG} {u:V} {out:List (List Int)} (d:UR h.view u out):dB h u (YV out):=by
 obtain⟨b,rfl,d,f⟩:=d
 have c:∀ i (hi:i < b.length),(GL b).getD i []=[(b[i]).1]/\(((b.map (·.2)).map λw=>[encI w]).getD i [])=[encI (b[i]).2]:=λi hi=>by
  simp[GL,aaq,hi]
 refine dB.own d (by simp[GL]) (λi hi=>?_) (λi j hi e=>?_)
 .have a:i < b.length:=by simpa [GL] using hi
  rw[(c i a).1,(c i a).2];rfl
 .have a:i < b.length:=by simpa [GL] using hi
  rw[(c i a).2] at e ⊢
  rw[(c i a).1]
  have:j=0:=by simp at e;omega
  subst this
  simp only[abD]
  exact dB.PK (f _ (aaC a))
section
variable {P:Program} {T:Env} {H:View} {K:V->View->Prop} {w:cO (T,H,K)} {t t1 e ty:TypeId}
end
theorem Mr {id off k m:Nat} (hm:m<=k):dO 1 (.sl id off k 1) none (some (gi m))=some (.sl id off m 1,.none,[]):=by
 simp[dO,bound,asNat,hm]
def Qp:Value->Value->Bool
 | .int k a,.int k' b=>decide (k=k') && decide (a=b)
 | .bool a,.bool b=>a == b
 | .string a,.string b=>j8 a b
 | .pointer none,.pointer none=>true
 | _,_=>false
theorem VU:∀ (a b:Value),Qp a b=true->a=b:=by
 intro a b h
 unfold Qp at h
 split at h
 .simp only[aaB,aaE] at h
  rw[h.1,h.2]
 .rename_i a b
  rw[show a=b by simpa using h]
 .rename_i a b
  obtain⟨a⟩:=a
  obtain⟨b⟩:=b
  simp only[j8,abH] at h
  rw[show a=b from Array.toList_inj.1 h]
 .rfl
 .simp at h
def Df (q:V->V->Bool):List V->List V->Bool
 | [],[]=>true
 | a :: l,b :: m=>q a b && Df q l m
 | _,_=>false
def NF (q:V->V->Bool):List (List V)->List (List V)->Bool
 | [],[]=>true
 | a :: l,b :: m=>Df q a b && NF q l m
 | _,_=>false
def Ik:Nat->V->V->Bool
 | 0,_,_=>false
 | k+1,a,b=>match a,b with
  | .val x,.val y=>Qp x y
  | .aE x,.aE y=>NF (Ik k) x y
  | .agg x,.agg y=>Df (Ik k) x y
  | .bD x,.bD y=>Df (Ik k) x y
  | _,_=>false
theorem xN {q:V->V->Bool} (hq:∀ a b,q a b=true->a=b):∀ (l m:List V),Df q l m=true->l=m
 | [],[],_=>rfl
 | a :: l,b :: m,h=>by
  simp only[Df,aaB] at h
  rw[hq a b h.1,xN hq l m h.2]
 | [],_ :: _,h=>by simp[Df] at h
 | _ :: _,[],h=>by simp[Df] at h
theorem SJ {q:V->V->Bool} (hq:∀ a b,q a b=true->a=b):∀ (l m:List (List V)),NF q l m=true->l=m
 | [],[],_=>rfl
 | a :: l,b :: m,h=>by
  simp only[NF,aaB] at h
  rw[xN hq a b h.1,SJ hq l m h.2]
 | [],_ :: _,h=>by simp[NF] at h
 | _ :: _,[],h=>by simp[NF] at h
theorem LM:∀ (k:Nat) (a b:V),Ik k a b=true->a=b
 | 0,_,_,h=>by simp[Ik] at h
 | k+1,a,b,h=>by
  have c:=LM k
  unfold Ik at h
  split at h
  .rw[VU _ _ h]
  .rw[SJ c _ _ h]
  .rw[xN c _ _ h]
  .rw[xN c _ _ h]
  .simp at h
def wL:Nat->V->Bool
 | 0,_=>false
 | k+1,v=>match v with
  | .val _=>true
  | .emp _=>true
  | .ep=>true
  | .aE es=>es.all λe=>e.all (wL k)
  | .agg cs=>cs.all (wL k)
  | .bD cs=>cs.all (wL k)
  | _=>false
theorem yV {q:V->Bool} {l:List V} (h:l.all q=true) {i:Nat} (hi:i < l.length):q (l.getD i .any)=true:=by
 have e:l.getD i .any=l[i]:=by simp[aaq,hi]
 rw[e]
 exact aaX.1 h _ (aaC _)
theorem DW:∀ (k:Nat) (v:V),wL k v=true->Tree v
 | 0,_,h=>by simp[wL] at h
 | k+1,v,h=>by
  have a:=DW k
  unfold wL at h
  split at h
  .exact .val _
  .exact .emp _
  .exact .ep
  .rename_i es
   refine .aE _ λi j hi b=>a _ ?_
   have e:es.getD i []=es[i]:=by simp[aaq,hi]
   have h1:=aaX.1 h _ (aaC hi)
   rw[e] at b ⊢
   exact yV h1 b
  .exact .agg _ λi hi=>a _ (yV h hi)
  .exact .bD _ λi hi=>a _ (yV h hi)
  .simp at h
noncomputable def zd (H:View):Nat->V->Option V
 | 0,_=>none
 | k+1,v=>match v with
  | .val x=>some (.val x)
  | .emp _=>some (.aE [])
  | .aE es=>match wL 60 (.aE es) with
   | true=>some (.aE es)
   | false=>none
  | .sl id off len _=>match H id with
   | .arr _ es=>match Nat.ble (off+len) es.length with
    | true=>(GJ (zd H k) ((es.drop off).take len)).map .aE
    | false=>none
   | _=>none
  | .agg cs=>(qz (zd H k) cs).map .agg
  | .bD cs=>(qz (zd H k) cs).map .bD
  | _=>none
theorem GU (h:aG):∀ (k:Nat) (v t:V),zd h.view k v=some t->Fr h v t
 | 0,v,t,a=>by simp[zd] at a
 | k+1,v,t,a=>by
  have b:=GU h k
  simp only[zd] at a
  split at a
  .simp only[aau] at a;subst a;exact .tree _ (.val _)
  .simp only[aau] at a;subst a;exact .emp _
  .split at a
   .rename_i c
    simp only[aau] at a;subst a;exact .tree _ (DW _ _ c)
   .simp at a
  .rename_i id off len esz
   split at a
   .rename_i z es hH
    split at a
    .rename_i hle
     have hle:=Nat.le_of_ble_eq_true hle
     simp only[aaF] at a
     obtain⟨es',he,rfl⟩:=a
     obtain⟨g1,g2⟩:=Hd _ _ he
     have hlen:es'.length=len:=by rw[g1];simp;omega
     have d:∀ i,i < len->((es.drop off).take len).getD i []=es.getD (off+i) []:=λi hi=>by
      simp[aaq,ab6,hi]
     have g3:∀ i,i < len->qz (zd h.view k) (es.getD (off+i) [])=some (es'.getD i []):=λi hi=>by
      rw[<-d i hi];exact g2 i (by rw[<-g1,hlen];exact hi)
     exact .sl id off len esz z es es' hH hle hlen (λi hi=>(jx _ _ (g3 i hi)).1) (λi j hi e=>b _ _ ((jx _ _ (g3 i hi)).2 j (by rw[<-(jx _ _ (g3 i hi)).1];exact e)))
    .simp at a
   .simp at a
  .simp only[aaF] at a
   obtain⟨l,hl,rfl⟩:=a
   obtain⟨g1,g2⟩:=jx _ _ hl
   exact .agg _ _ g1 (λi hi=>b _ _ (g2 i hi))
  .simp only[aaF] at a
   obtain⟨l,hl,rfl⟩:=a
   obtain⟨g1,g2⟩:=jx _ _ hl
   exact .bD _ _ g1 (λi hi=>b _ _ (g2 i hi))
  .simp at a
theorem az.seen {P:Program} {f:FuncId} {vs g:List V} {t:V} (p:az P f g t) (q:∀ i,i < vs.length->Tree (vs.getD i .any)) (hl:g.length=vs.length) (k:∀ i,i < vs.length->Fr [] (vs.getD i .any) (g.getD i .any)):az P f vs t:=by
 intro Z μ w xs a n
 have l:jj Z (λ_=>none) w.heap (cat [] λ_=>.dead):=by
  rw[G3]
  exact⟨λ_=>trivial,λi j b o s z A _ h=>by simp at h,λid b o s h=>by simp at h,n,λid b o s h=>by simp at h⟩
 have c:∀ b,¬ ko (λ_=>none) b:=λb ⟨_,_,_,h⟩=>by simp at h
 have m:gX (λb=>Z b∨ko (λ_=>none) b) μ w.heap g xs:=⟨by rw[hl,a.1],λi hi=>FO l (k i (by omega)) (Aa (a.2 i (by omega)) (q i (by omega)))⟩
 refine(p _ μ w xs m (λb d=>d.elim (n b) (λh=>absurd h (c b)))).mono ?_
 rintro e w' ⟨x,r,rfl,u,hs,h1,v,y⟩
 exact⟨x,r,rfl,u,hs,λb d=>h1 b (.inl d),λb d=>(v b d).elim (λh=>h.elim .inl (λh=>absurd h (c b))) .inr,y⟩
abbrev yN:=FuncId × List V × V × Bool
def yN.Ok (P:Program) (x:yN):Prop:=dW P x.1=true/\if x.2.2.2=true then az P x.1 x.2.1 x.2.2.1 else (cW P x.1 x.2.1 x.2.2.1∨(az P x.1 x.2.1 x.2.2.1/\Ea x.2.2.1))
noncomputable def We (g:FuncId) (vs:List V) (H:View) (x:yN):Bool:=Nat.beq x.1 g && (match x.2.2.2 with
 | true=>vs.all (wL 60) && (match qz (zd (λ_=>.dead) 60) vs with
  | some ts=>Df (Ik 60) ts x.2.1
  | none=>false)
 | false=>match qz (zd H 60) vs with
  | some ts=>Df (Ik 60) ts x.2.1
  | none=>false)
noncomputable def O8 (l:List yN):Co:=λg vs H=>(l.find? (We g vs H)).map λx=>x.2.2.1
theorem J7 {P:Program} {l:List yN} (hl:∀ x∈l,x.Ok P):uY P (O8 l):=by
 intro g vs H t h
 unfold O8 at h
 simp only[aaF] at h
 obtain⟨⟨f,o,r,b⟩,m,rfl⟩:=h
 obtain⟨h1,a⟩:=hl _ (List.mem_of_find?_eq_some m)
 have hq:=List.find?_some m
 simp only[We,aaB] at hq
 obtain⟨j,hq⟩:=hq
 have j:=acq j
 simp only at j h1 a hq
 subst j
 refine⟨h1,?_⟩
 rintro h rfl
 cases b with
 | true =>
  simp only[aaB] at hq
  obtain⟨k,c⟩:=hq
  split at c
  .rename_i us d
   obtain⟨g1,g2⟩:=jx _ _ d
   have:=xN (LM 60) _ _ c
   subst this
   simp only[if_true] at a
   exact cd.ij (a.seen (λi hi=>DW _ _ (yV k hi)) g1 λi hi=>GU [] 60 _ _ (g2 i hi)) h
  .simp at c
 | false =>
  simp only at hq
  split at hq
  .rename_i us d
   obtain⟨g1,g2⟩:=jx _ _ d
   have:=xN (LM 60) _ _ hq
   subst this
   have e:=λi hi=>GU h 60 _ _ (g2 i hi)
   simp only[aaU,if_false] at a
   rcases a with a | ⟨a,n⟩
   .exact cd.xQ a g1 e
   .exact cd.borrow a n g1 e
  .simp at hq
def wJ (x:Int):Bool:=decide (-9223372036854775808<=x) && decide (x<=9223372036854775807)
theorem rK {x:Int} (h:wJ x=true):b6 x:=by
 unfold wJ at h
 simp only[aaB,aaE] at h
 exact h
def okB (g:ai):Bool:=decide (g.af.length<=900) && decide (g.ak.length<=100) && decide (g.rules.length<=900) && wJ g.start && g.af.all (λt=>wJ t.level && wJ t.assoc) && g.rules.all λr=>wJ r.left && wJ r.prec && decide (r.right.length<=900) && r.right.all wJ
theorem Ua {g:ai} (h:okB g=true):g.Ok/\g.Small:=by
 unfold okB at h
 simp only[aaB,aaE,aaX] at h
 obtain⟨⟨⟨⟨⟨h1,f⟩,i⟩,c⟩,a⟩,d⟩:=h
 refine⟨⟨by unfold aK;omega,by unfold aK;omega,by unfold aK;omega,rK c,λt b=>⟨rK (a t b).1,rK (a t b).2⟩,λr hr=>?_⟩,⟨by omega⟩⟩
 have:=d r hr
 exact⟨rK this.1.1.1,rK this.1.1.2,by unfold aK;have:=this.1.2;omega,λx e=>rK (this.2 x e)⟩
theorem pf:sq.Ok/\sq.Small:=Ua (by kernel_rfl)
def RH:List Int:=[37,108,101,102,116,32,39,43,39,32,37,37,32,101,32,58,32,101,32,39,43,39,32,101,32,124,32,39,110,39,32,59]
def nZ:ai:=⟨[⟨⟨#[39,43,39]⟩,1,1⟩,⟨⟨#[39,110,39]⟩,0,0⟩],[⟨#[101]⟩],[⟨0,[-1,0,-1],0⟩,⟨0,[1],1⟩],0⟩
noncomputable def WW:List (FuncId × DF):=CG Tryz.prog [(42,[]),(43,[1]),(85,[6,100000]),(38,[]),(79,[]),(124,[]),(129,[9]),(176,[9]),(84,[3]),(126,[]),(173,[]),(127,[]),(174,[]),(210,[]),(211,[]),(128,[3]),(175,[3]),(24,[1]),(64,[]),(112,[]),(167,[]),(207,[]),(208,[]),(166,[]),(199,[]),(113,[2,3]),(168,[]),(114,[]),(62,[]),(56,[2]),(50,[2,3]),(53,[2]),(58,[]),(63,[2]),(111,[2]),(33,[1]),(74,[4,5,100000]),(121,[2]),(172,[]),(91,[]),(133,[]),(119,[]),(28,[]),(69,[2]),(68,[]),(72,[2]),(73,[100000]),(120,[]),(75,[1]),(122,[]),(47,[2,3]),(89,[3]),(90,[3]),(88,[]),(132,[]),(92,[])]
theorem PH:uq Tryz.prog WW:=zR _ _
theorem Yu:cW Tryz.prog 49 [Ec RH] (uM nZ):=Ov (by kernel_rfl)
theorem nb:nZ.Ok/\nZ.Small:=Ua (by kernel_rfl)
def Wn:List yN:=[(49,[Ec RH],uM nZ,false),(49,[Ec WI],uM sq,false),(61,[.agg (ag sq)],gb true,false),(61,[.agg (ag nZ)],gb true,false),(61,[.agg (ag yi)],gb false,false),(52,[.agg (ag sq)],gb true,false),(52,[.agg (ag nZ)],gb true,false),
 (118,[.agg (ag sq)],.aE [[gb true]],false),(118,[.agg (ag nZ)],.aE [[gb false]],false)]
theorem UL:∀ x∈Wn,x.Ok Tryz.prog:=by
 have hi:∀ (g:ai),g.Ok->g.Small->∀ b,isRed g=b->yN.Ok Tryz.prog (61,[.agg (ag g)],gb b,false):=λg h1 a b e=>⟨by kernel_rfl,by simp only[aaU,if_false];exact .inr ⟨e ▸ Rp g h1 a,.val _⟩⟩
 have hr:∀ (g:ai),g.Ok->g.Small->∀ b,bC g=b->yN.Ok Tryz.prog (52,[.agg (ag g)],gb b,false):=λg h1 a b e=>⟨by kernel_rfl,by simp only[aaU,if_false];exact .inr ⟨e ▸ mM g h1 a.names,.val _⟩⟩
 have c:∀ (g:ai),g.Ok->g.Small->∀ b,bO (au g false)=b->yN.Ok Tryz.prog (118,[.agg (ag g)],b,false):=λg h1 a b e=>⟨by kernel_rfl,by simp only[aaU,if_false];exact .inl (e ▸ B8 g h1 a)⟩
 intro x d
 simp only[Wn,aaI,List.not_mem_nil,or_false] at d
 rcases d with rfl | rfl | rfl | rfl | rfl | rfl | rfl | rfl | rfl
 .exact⟨by kernel_rfl,by simp only[aaU,if_false];exact .inl Yu⟩
 .exact⟨by kernel_rfl,by simp only[aaU,if_false];exact .inl Zb⟩
 .exact hi sq pf.1 pf.2 true (by kernel_rfl)
 .exact hi nZ nb.1 nb.2 true (by kernel_rfl)
 .exact hi yi YG ⟨by decide⟩ false (by kernel_rfl)
 .exact hr sq pf.1 pf.2 true (by kernel_rfl)
 .exact hr nZ nb.1 nb.2 true (by kernel_rfl)
 .exact c sq pf.1 pf.2 _ (by kernel_rfl)
 .exact c nZ nb.1 nb.2 _ (by kernel_rfl)
theorem OT:az Tryz.prog 42 [] (gb true) :=
 (uA mixed PH (J7 UL) (by simp) (by kernel_rfl)).pure
structure cr where
 sym:Int
 to:Int
 deriving DecidableEq
def kc (x:cr):List V:=[gi x.sym,gi x.to]
theorem XC {H:View} {u:V} {sz b i j:Nat} {es:List (List V)} (h:ba H u sz es) (a:owner u≠some b):jv (.ptr b i j) u:=by
 rcases h with ⟨_,k,rfl⟩ | ⟨z,rfl,_⟩
 .simp[jv]
 .simp[jv,owner] at a ⊢
  exact λe=>a e.symm
abbrev Jl:=List (V × List Cell)
abbrev Pd:=List (V × List Int)
def bt {α:Type} (A:List (V × α)):List (List V):=A.map λx=>[x.1]
def zf (A:Jl):List cx:=A.map λx=>(x.1,2,x.2.map cK)
def zP (A:Pd):List cx:=A.map λx=>(x.1,1,bK x.2)
theorem TI {h:aG} {u:V} {A:Jl} (f:ba h.view u 1 (bt A)) (g:∀ x∈A,ba h.view x.1 2 (x.2.map cK)):dB h u (.aE ((A.map (·.2)).map λr=>[hU r])):=by
 have c:∀ i (hi:i < A.length),(bt A).getD i []=[(A[i]).1]/\(((A.map (·.2)).map λr=>[hU r]).getD i [])=[hU (A[i]).2]:=λi hi=>by
  simp[bt,aaq,hi]
 refine dB.own f (by simp[bt]) (λi hi=>?_) (λi j hi b=>?_)
 .have a:i < A.length:=by simpa [bt] using hi
  rw[(c i a).1,(c i a).2];rfl
 .have a:i < A.length:=by simpa [bt] using hi
  rw[(c i a).2] at b ⊢
  rw[(c i a).1]
  have:j=0:=by simp at b;omega
  subst this
  simp only[abD]
  have d:=g _ (aaC a)
  generalize (A[i]'a).2=l at d
  refine dB.own d rfl (λi _=>rfl) (λi j hi b=>?_)
  simp only[aaA] at hi
  have e:(l.map cK).getD i []=cK l[i]:=by simp[aaq,hi]
  rw[e] at b ⊢
  match j,b with
  | 0,_=>exact .val _
  | 1,_=>exact .val _
theorem XD {h:aG} {u v s t:V} (h1:dB h u s) (a:dB h v t):dB h (.agg [u,v]) (.agg [s,t]):=.agg _ _ rfl λj b=>by
 match j,b with
 | 0,_=>exact h1
 | 1,_=>exact a
structure aA where
 ax:Int
 dot:Int
 deriving DecidableEq
def bF (x:aA):List V:=[gi x.ax,gi x.dot]
def aV (l:List aA):List (List V):=l.map bF
def cY (a b:aA):Bool:=decide (a.ax < b.ax) || (decide (a.ax=b.ax) && decide (a.dot < b.dot))
def fj:List aA->aA->List aA
 | [],x=>[x]
 | y :: l,x=>if cY y x=true then y :: fj l x else if y=x then y :: l else x :: y :: l
theorem Xw (a b:aA):∀ v∈[V.agg (bF a),.agg (bF b)],Tree v:=by
 intro v c;simp at c
 rcases c with rfl | rfl <;> exact cn _ λv c=>by simp[bF] at c;rcases c with rfl | rfl <;> exact .val _
def tv:SF:=⟨ae [ab [cy 2 0,cy 3 1,bw 4 false],.region false [⟨none,[ao 5 0 2,aj 6 5,ao 7 0 3,aj 8 7,aQ 9 .lss 6 8,aa 10 9]⟩,⟨(some (10,false)),[ao 11 0 2,aj 12 11,ao 13 0 3,aj 14 13,aQ 15 .eql 12 14,aa 16 15]⟩,⟨(some (16,true)),[ao 17 1 2,aj 18 17,ao 19 1 3,aj 20 19,aQ 21 .lss 18 20]⟩,⟨(some (10,false)),[eC 22 16 21]⟩,⟨none,[cF 23 10 22,aa 4 23]⟩],.ret],
 [.tmp 4],24⟩
theorem yq:aO Tryz.prog 156 [2,3]=some tv:=by kernel_rfl
def rh:SC :=
 ae [ae [.region false [⟨none,[aa 7 5,aa 8 0,aM 9 8,aQ 10 .lss 7 9,aa 11 10]⟩,⟨(some (11,true)),[aa 12 0,aa 13 5,aI 14 2 12 13,aY 15 2 14,aY 16 2 3,bm 17 156 [15,16]]⟩,⟨none,[eC 18 11 17]⟩],bS 18 (.exit 0)],.block 1 (ab [aa 19 5,aF 20 .add 19 1,aa 5 20])]
def tS:SF:=⟨ae [ab [cy 3 1,cT 4 1],ab [aT 5 0],bX 0 rh,ae [.region false [⟨none,[aa 21 5,aa 22 0,aM 23 22,aQ 24 .lss 21 23,aa 25 24]⟩,⟨(some (25,true)),[aa 26 0,aa 27 5,aI 28 2 26 27,aY 29 2 28,aY 30 2 3,((some 31),.op (.old (.binOp .eql 33 (.tmp 29) (.tmp 30) 33) 4))]⟩,⟨none,[eC 32 25 31]⟩],bf 32 (ae [ab [aa 33 0,aa 4 33],.ret])],ab [cT 34 2,aa 35 0,aa 36 5,((some 37),.op (.slice 2 (.tmp 35) (some (.tmp 36)) none)),gx 38 2 16 34 37,aa 6 38],ab [aa 39 0,aa 40 5,((some 41),.op (.slice 2 (.tmp 39) none (some (.tmp 40)))),aY 42 2 3,((some 43),.op (.bW 1 2 [(.val (.int .i64 0)),(.val (.int .i64 0))] [(0,(.tmp 42))])),gx 44 2 16 41 43,aa 45 6,gx 46 2 16 44 45,aa 4 46],.ret],
 [.tmp 4],47⟩
theorem zb:aO Tryz.prog 108 [3]=some tS:=by kernel_rfl
theorem R7 (a b:aA):az Tryz.prog 156 [.agg (bF a),.agg (bF b)] (gb (cY a b)):=by
 refine az.val (Xw a b) λH=>?_
 refine av.of mixed yq ?_
 unfold cY
 simp(disch:=omega)only[↓wr,seval,wq,tv,bF]
 apply ah.dec<;>intro h1
 .simp(disch:=omega)only[↓wr,seval,wq]
  rw[acx h1];rfl
 simp(disch:=omega)only[↓wr,seval,wq,bF]
 apply ah.eq<;>intro c
 .simp(disch:=omega)only[↓wr,seval,wq,bF]
  rw[decide_eq_false h1,acx c];rfl
 .simp(disch:=omega)only[↓wr,seval,wq]
  rw[decide_eq_false h1,decide_eq_false c];rfl
def eJ:List aA->aA->Nat
 | [],_=>0
 | y :: l,x=>if cY y x=true then eJ l x+1 else 0
theorem EF:∀ (l:List aA) (x:aA),eJ l x<=l.length
 | [],_=>aaD _
 | y :: l,x=>by
  rw[eJ];split
  .have:=EF l x;simp;omega
  .simp
theorem Fj:∀ (l:List aA) (x:aA) (i:Nat) (y:aA),l[i]?=some y->i < eJ l x->cY y x=true
 | [],_,_,_,h,_=>by simp at h
 | z :: l,x,0,y,h,hi=>by
  rw[eJ] at hi;split at hi
  .simp at h;subst h;assumption
  .omega
 | z :: l,x,i+1,y,h,hi=>by
  rw[eJ] at hi;split at hi
  .exact Fj l x i y (by simpa using h) (by omega)
  .omega
theorem ED:∀ (l:List aA) (x:aA) (y:aA),l[eJ l x]?=some y->cY y x=false
 | [],_,_,h=>by simp at h
 | z :: l,x,y,h=>by
  rw[eJ] at h;split at h
  .exact ED l x y (by simpa using h)
  .rename_i e;simp at h;subst h;simpa using e
theorem zI:∀ (l:List aA) (x:aA),fj l x=if l[eJ l x]?=some x then l else l.take (eJ l x) ++ [x] ++ l.drop (eJ l x)
 | [],x=>by simp[fj,eJ]
 | y :: l,x=>by
  rw[fj,eJ]
  split
  .have:=zI l x
   simp only[abm,ach,List.drop_succ_cons,aa9]
   rw[this];split <;> simp
  .simp only[aa0,aau,List.take_zero,abO,abF,aa9]
theorem mO (x y:aA):ik Tryz.prog 9998 #[.int .i64 x.ax,.int .i64 x.dot] #[.int .i64 y.ax,.int .i64 y.dot]
  [{ name:= "Rule",type:=3,offset:=0,embedded:=false,tag:= "",pkgPath:= "",byteOffset:=0 },{ name:= "Dot",type:=3,offset:=1,embedded:=false,tag:= "",pkgPath:= "",byteOffset:=8 }] ((x.ax == y.ax) && ((x.dot == y.dot) && true)) :=
 .int _ _ _ .i64 _ _ (by decide) Tryz.underlying3 rfl rfl (.int _ _ _ .i64 _ _ (by decide) Tryz.underlying3 rfl rfl .nil)
theorem vf (x y:aA):((x.ax == y.ax) && ((x.dot == y.dot) && true))=decide (x=y):=by
 cases x;cases y;rw[abu];simp
theorem BI {sz id off k m:Nat} (hm:m<=k):dO sz (.sl id off k sz) (some (gi m)) none=some (.sl id (off+m) (k - m) sz,.none,[]):=by
 simp[dO,bound,asNat,hm]
theorem ve {sz id off k m:Nat} (hm:m<=k):dO sz (.sl id off k sz) none (some (gi m))=some (.sl id off m sz,.none,[]):=by
 simp[dO,bound,asNat,hm]
theorem Rq (l:List aA):((aV l).all λe=>e.length == 2 && e.all aR)=true:=by
 simp[aV,List.all_map,bF,aR]
theorem TJ {H:View} {u:V} {sz:Nat} {es:List (List V)} (h:ba H u sz es):∃ rd,bQ H u=some (es,rd):=by
 rcases h with ⟨rfl,k,rfl⟩ | ⟨n,rfl,a⟩
 .exact⟨_,xC _ k⟩
 .cases es with
  | nil=>exact⟨[],by simp[bQ]⟩
  | cons e es =>
   exact⟨_,by rw[show (e :: es).length=es.length+1 from rfl,ud _ n 0 es.length sz sz _ a (by simp),abO,aaJ (by simp)]⟩
theorem sj {sz bytes:Nat} {u:V} {es:List (List V)} {H:View} {K:V->View->Prop} {w:cO (H,K)} (a:ba H u sz es) (h:K u H):oy sz bytes u [] H K w:=by
 unfold oy
 rcases a with ⟨_,k,rfl⟩ | ⟨n,rfl,_⟩ <;> simpa using h
theorem Left.behind {H H':View} {q:Nat} {o:di} {u r:V} (hq:H q=.dead) (h:Left (H.set q o) H' u r):Left H H' u r:=λa c b=>by
 have e:¬ a=q:=by rintro rfl;exact c hq
 have:=h a (by simp[View.set,e];exact c) b
 simpa [View.set,e] using this
theorem Ek (u:V) (l:List aA) (hl:l.length<=100000) (x:aA) (H:View) (t:ba H u 2 (aV l)):av Tryz.prog 108 [u,.agg (bF x)] H λr H'=>ba H' r 2 (aV (fj l x))/\Left H H' u r:=by
 refine av.of mixed zb ?_
 have hlen:cU u=some l.length:=by rw[t.len];simp[aV]
 have hle:=EF l x
 simp(disch:=omega)only[↓wr,seval,wq,tS,bF]
 refine aS.up (eJ l x) (λi T H'=>H'=H/\i<=eJ l x/\T 0=u/\T 3=.aH (bF x) 0/\T 5=gi i) ⟨rfl,by omega,rfl,rfl,rfl⟩ ?_
 rintro i k T H' hk ⟨Y,hi,t0,t3,t5⟩
 subst Y
 simp(disch:=omega)only[↓wr,seval,wq,rh,t0,t3,t5,hlen]
 have stop:i=eJ l x->True:=λ_=>trivial
 apply ah.dec<;>intro J
 .have v:l[i]?=some (l[i]'(by omega)):=aar (by omega)
  generalize l[i]'(by omega)=y at v
  obtain⟨id,hu,b⟩:=t.sl (by simp[aV];omega)
  have j:(aV l).length=l.length:=by simp[aV]
  have K:(aV l).getD i []=bF y:=by simp[aV,aaq,v]
  have z:=R7 y x
  simp only[bF] at z K
  simp(disch:=omega)only[↓wr,seval,wq,t0,t3,t5,hu,b,K,bF]
  refine⟨by simp[aV];omega,by simp[aV];omega,?_⟩
  refine ay.pure z ?_
  simp(disch:=omega)only[↓wr,seval,wq,t0,t3,t5]
  apply ah.split<;>intro e
  .have A:i < eJ l x:=by
    rcases aaT i (eJ l x) with h | h
    .exact h
    .have:=ED l x y (by rw[show eJ l x=i by omega];exact v)
     rw[this] at e;exact absurd e (by simp)
   simp(disch:=omega)only[↓wr,seval,wq,t0,t3,t5]
   exact aC hk A ⟨rfl,A,t0,t3,rfl⟩
  have p:i=eJ l x:=by
   rcases aaT i (eJ l x) with h | h
   .rw[Fj l x i y v h] at e;exact absurd e (by simp)
   .omega
  simp(disch:=omega)only[↓wr,seval,wq,t0,t3,t5,hlen]
  refine ah.dec (λ_=>?_) (λh=>absurd J h)
  simp(disch:=omega)only[↓wr,seval,wq,t0,t3,t5,hu,b,K,bF]
  refine⟨by simp[aV];omega,by simp[aV];omega,?_⟩
  refine iy (xs:=#[.int .i64 y.ax,.int .i64 y.dot]) (ys:=#[.int .i64 x.ax,.int .i64 x.dot]) Tryz.underlying33 (by kernel_rfl) (by kernel_rfl) ?_ ?_ (mO y x) (.inl ⟨rfl,rfl⟩) ?_
  .rfl
  .rfl
  rw[vf]
  simp(disch:=omega)only[↓wr,seval,wq,t0,t3,t5]
  apply ah.dec<;>intro L
  .subst L
   simp(disch:=omega)only[↓wr,seval,wq,t0]
   rw[zI,aaw (by rw[<-p];exact v)]
   exact⟨t,λid b t=>⟨rfl,t⟩⟩
  rw[j] at hu
  have M:bQ H' (.sl id i (l.length - i) 2)=some (aV (l.drop i),[id]):=by
   obtain⟨q,hq⟩:∃ q,l.length - i=q+1:=⟨l.length - i - 1,by omega⟩
   rw[hq,ud H' id i q 2 2 (aV l) b (by rw[j];omega)]
   rw[show (aV l).drop i=aV (l.drop i) from List.map_drop.symm,aaJ (by simp[aV];omega)]
  simp(disch:=omega)only[↓wr,seval,wq,t0,t3,t5,hu,BI (sz:=2) (id:=id) (off:=0) (k:=l.length) (m:=i) (by omega),M]
  refine gO ba.nil (Rq _) (by unfold aD aV;simp;omega) (by unfold aD aV;simp;omega) ?_
  intro rest H1 N lr
  simp(disch:=omega)only[↓wr,seval,wq,t0,t3,t5,hu,ve (sz:=2) (id:=id) (off:=0) (k:=l.length) (m:=i) (by omega),bF]
  intro q hq
  have B:owner rest≠some id:=(lr id (by rw[b];simp) (by simp[owner])).2
  have d:H1 id=.arr 2 (aV l):=by rw[(lr id (by rw[b];simp) (by simp[owner])).1,b]
  have C:¬ id=q:=by rintro rfl;rw[d] at hq;simp at hq
  simp(disch:=omega)only[↓wr,seval,wq,bM]
  rw[zr _ _ _ _ _ _ _ _ _ _ (by rfl)]
  simp(disch:=omega)only[↓wr,seval,wq,C,d,j]
  refine⟨⟨by omega,by unfold aD;omega,by unfold aD;omega⟩,λg c=>?_⟩
  try rw[abO]
  have D:¬ g=q:=by rintro rfl;simp at c
  rw[aat D] at c
  have E:¬ g=id:=by rintro rfl;rw[d] at c;simp at c
  have f:=((N.fresh (o:=.arr 2 [[gi x.ax,gi x.dot]]) hq).other (o:=.dead) B).fresh (m:=g) (o:=.arr 2 (List.take i (aV l) ++ [[gi x.ax,gi x.dot]])) (by simp[View.set,D,E,c])
  have F:ba (((H1.set q (.arr 2 [[gi x.ax,gi x.dot]])).set id .dead).set g (.arr 2 (List.take i (aV l) ++ [[gi x.ax,gi x.dot]]))) (.sl g 0 (i+1) 2) 2 (List.take i (aV l) ++ [[gi x.ax,gi x.dot]]):=.inr ⟨g,by simp[j];omega,by simp[View.set]⟩
  have G:∀ a,H' a≠.dead->a≠id->(((H1.set q (.arr 2 [[gi x.ax,gi x.dot]])).set id .dead).set g (.arr 2 (List.take i (aV l) ++ [[gi x.ax,gi x.dot]]))) a=H' a/\a≠g:=λa w O=>by
   have h1:=(lr a w (by simp[owner])).1
   have Z:¬ a=q:=by rintro rfl;rw[hq] at h1;exact w h1.symm
   have U:¬ a=g:=by rintro rfl;rw[c] at h1;exact w h1.symm
   exact⟨by simp[View.set,Z,U,O,h1],U⟩
  generalize ((H1.set q (.arr 2 [[gi x.ax,gi x.dot]])).set id .dead).set g (.arr 2 (List.take i (aV l) ++ [[gi x.ax,gi x.dot]]))=H3 at f F G ⊢
  rw[abF] at f
  obtain⟨rd,he⟩:=TJ f
  simp(disch:=omega)only[↓wr,seval,wq,he]
  refine gO F (Rq _) (by unfold aD aV;simp;omega) (by unfold aD aV;simp;omega) ?_
  intro r W s I
  simp(disch:=omega)only[↓wr,seval,wq]
  refine⟨?_,λa w P=>?_⟩
  .rw[zI,aat (by rw[<-p,v];simpa using L),<-p]
   simpa [aV,bF,List.map_take,List.map_drop] using s
  .obtain⟨X,k2⟩:=G a w (by rintro rfl;exact P (by rw[hu];rfl))
   have:=I a (by rw[X];exact w) (by simp[owner];exact λh=>k2 h.symm)
   exact⟨by rw[this.1,X],this.2⟩
 .simp(disch:=omega)only[↓wr,seval,wq,t0,t3,t5,hlen]
  refine ah.dec (λh=>absurd h J) (λ_=>?_)
  have Q:i=l.length:=by omega
  subst Q
  have n:aV (fj l x)=aV l ++ [[gi x.ax,gi x.dot]]:=by
   rw[zI,show eJ l x=l.length by omega,aa1 (aaD _),aat (by simp),List.take_length,List.drop_length]
   simp[aV,bF]
  rcases t with ⟨e,k0,hu⟩ | ⟨id,hu,b⟩
  .have R:l=[]:=by simpa [aV] using e
   subst R
   simp(disch:=omega)only[↓wr,seval,wq,t0,t3,t5,hu,show ∀ k,dO 2 (.emp k) (some (gi 0)) none=some (.emp k,.none,[]) from λk=>rfl,show ∀ k,dO 2 (.emp k) none (some (gi 0))=some (.emp k,.none,[]) from λk=>rfl]
   refine sj ba.nil ?_
   simp(disch:=omega)only[↓wr,seval,wq,t0,t3,t5,hu,show ∀ k,dO 2 (.emp k) none (some (gi 0))=some (.emp k,.none,[]) from λk=>rfl,bF]
   intro q hq
   simp(disch:=omega)only[↓wr,seval,wq,bM]
   refine gO (sz:=2) (u:=.emp k0) ba.nil (by simp[aR]) (by unfold aD;simp) (by unfold aD;simp) ?_
   intro r W s I
   simp(disch:=omega)only[↓wr,seval,wq]
   refine sj s ?_
   simp(disch:=omega)only[↓wr,seval,wq]
   exact⟨by rw[n];exact s,hu ▸ Left.behind hq I⟩
  .rw[show (aV l).length=l.length by simp[aV]] at hu
   simp(disch:=omega)only[↓wr,seval,wq,t0,t3,t5,hu,BI (sz:=2) (id:=id) (off:=0) (k:=l.length) (m:=l.length) (by omega),ve (sz:=2) (id:=id) (off:=0) (k:=l.length) (m:=l.length) (by omega)]
   rw[Nat.sub_self,show bQ H' (.sl id l.length 0 2)=some ([],[]) from rfl]
   simp(disch:=omega)only[↓wr,seval,wq]
   refine sj ba.nil ?_
   simp(disch:=omega)only[↓wr,seval,wq,t0,t3,t5,hu,ve (sz:=2) (id:=id) (off:=0) (k:=l.length) (m:=l.length) (by omega),bF]
   intro q hq
   simp(disch:=omega)only[↓wr,seval,wq,bM]
   have S:ba H' (.sl id 0 l.length 2) 2 (aV l):=.inr ⟨id,by simp[aV],b⟩
   refine gO (sz:=2) (S.fresh hq) (by simp[aR]) (by unfold aD aV;simp;omega) (by unfold aD aV;simp;omega) ?_
   intro r W s I
   simp(disch:=omega)only[↓wr,seval,wq]
   refine sj s ?_
   simp(disch:=omega)only[↓wr,seval,wq]
   exact⟨by rw[n];exact s,hu ▸ Left.behind hq I⟩
def aP (g:ai) (r:Int):List Int:=if r = -1 then [-1 - g.start] else (aw g r).right
def bp (g:ai) (x:aA):Int × Bool:=if x.dot=(aP g x.ax).length then (0,false) else ((aP g x.ax).getD x.dot.toNat 0,true)
def qY:SF:=⟨ae [ab [cy 2 0,cT 4 1],ae [ab [aa 5 1,aF 6 .eql 5 (-1)],bf 6 (ae [ab [ao 7 3 2,aj 8 7,((some 9),.op (.arith .sub (.val (.val (.int .i64 (-1)))) (.tmp 8))),((some 10),.op (.bW 1 1 [(.val (.int .i64 0))] [(0,(.tmp 9))])),aa 4 10],.ret])],ab [ao 11 2 2,aj 12 11,aa 13 1,aI 14 3 12 13,ao 15 1 14,aj 16 15,aa 4 16],.ret],
 [.tmp 4],17⟩
theorem xg:aO Tryz.prog 55 [2]=some qY:=by kernel_rfl
def sE:SF:=⟨ae [ab [cy 2 0,cy 3 1,aT 4 0,bw 5 false],ab [aY 7 4 2,ao 8 0 3,aj 9 8,bm 10 55 [7,9],aa 6 10],ae [ab [ao 11 1 3,aj 12 11,aa 13 6,aM 14 13,aQ 15 .eql 12 14],bf 15 (ae [ab [aT 4 0,bw 5 false],.ret])],ab [aa 16 6,ao 17 1 3,aj 18 17,aI 19 1 16 18,aj 20 19,aa 4 20,bw 5 true],.ret],
 [.tmp 4,.tmp 5],21⟩
theorem yc:aO Tryz.prog 51 [2,3]=some sE:=by kernel_rfl
theorem E0 (g:ai) (hs : -100<=g.start/\g.start<=100) (r:Int) (hr : -1<=r/\r < (g.rules.length:Int)):az Tryz.prog 55 [.agg (ag g),gi r] (encI (aP g r)):=by
 refine az.of (by
  intro v a;simp at a
  rcases a with rfl | rfl
  .exact cn _ (dq g)
  .exact .val _) ?_
 refine av.of mixed xg ?_
 unfold aP
 simp(disch:=omega)only[↓wr,seval,wq,qY,ag,encS]
 apply ah.eq<;>intro h1
 .simp(disch:=omega)only[↓wr,seval,wq,ag,encS]
  intro n
  rw[aaw h1]
  rintro c a
  refine dB.fr (kK (l:=[-1 - g.start]) (.inr ⟨n,rfl,?_⟩))
  rw[a];simp[View.set]
 .have b:g.rules[r.toNat]?=some (aw g r):=by unfold aw;exact getD_some (by omega)
  rw[aat h1]
  generalize aw g r=R at b
  simp(disch:=omega)only[↓wr,seval,wq,ag,encS,aav,b,aaz,aU]
  intro c _
  exact .tree _ (fa R.right)
theorem Rz (g:ai) (hs : -100<=g.start/\g.start<=100) (x:aA) (c : -1<=x.ax/\x.ax < (g.rules.length:Int)) (hd:0<=x.dot/\x.dot<=(aP g x.ax).length) (hl:(aP g x.ax).length<=1000) :
  az Tryz.prog 51 [.agg (ag g),.agg (bF x)] (.bD [gi (bp g x).1,gb (bp g x).2]):=by
 have h1:=E0 g hs x.ax c
 refine az.tree (by
  intro v a;simp at a
  rcases a with rfl | rfl
  .exact cn _ (dq g)
  .exact cn _ λv a=>by simp[bF] at a;rcases a with rfl | rfl <;> exact .val _) (.bD _ λi hi=>by
   match i,hi with
   | 0,_=>exact .val _
   | 1,_=>exact .val _) λH=>?_
 refine av.of mixed yc ?_
 simp only[ag,encS,encI] at h1
 unfold bp
 simp(disch:=omega)only[↓wr,seval,wq,sE,ag,encS,bF]
 refine ay.pure h1 ?_
 generalize aP g x.ax=R at hd hl ⊢
 simp(disch:=omega)only[↓wr,seval,wq,bF]
 apply ah.eq<;>intro b
 .simp(disch:=omega)only[↓wr,seval,wq]
  rw[aaw b]
 .have d:R[x.dot.toNat]?=some (R.getD x.dot.toNat 0):=getD_some (by omega)
  simp(disch:=omega)only[↓wr,seval,wq,bF,aav,d,aaz]
  rw[aat b]
theorem fo {a b:aA} : cY a b=true↔a.ax < b.ax∨a.ax=b.ax/\a.dot < b.dot:=by
 simp[cY]
theorem qg {a b c:aA} (h:cY a b=true) (k:cY b c=true):cY a c=true:=by
 rw[fo] at h k ⊢;omega
theorem mZ {a:aA} : cY a a=false:=by
 cases h:cY a a with
 | false=>rfl
 | true=>rw[fo] at h;omega
theorem Ms {a b:aA} (h:cY a b=true):cY b a=false:=by
 cases k:cY b a with
 | false=>rfl
 | true=>have:=qg h k;rw[mZ] at this;exact absurd this (by simp)
theorem zy {a b:aA} (h:cY a b=false) (c:¬ a=b):cY b a=true:=by
 rw[fo]
 have h1:¬ cY a b=true:=by simp[h]
 rw[fo] at h1
 obtain⟨d,ad⟩:=a
 obtain⟨e,f⟩:=b
 simp only[aA.mk.injEq] at c
 simp only at h1 ⊢
 omega
abbrev cB (l:List aA):Prop:=l.Pairwise λa b=>cY a b=true
theorem kI:∀ {l:List aA} {x y:aA},y∈fj l x↔y=x∨y∈l
 | [],x,y=>by simp[fj]
 | z :: l,x,y=>by
  rw[fj]
  split
  .simp only[aaI,kI (l:=l)]
   constructor
   .rintro (h | h | h) <;> simp[h]
   .rintro (h | h | h) <;> simp[h]
  .split
   .rename_i h;subst h;simp
   .simp
theorem uC:∀ {l:List aA} {x:aA},cB l->cB (fj l x)
 | [],x,_=>by simp[fj,cB]
 | z :: l,x,h=>by
  rw[cB,abM] at h
  rw[fj]
  split
  .rename_i c
   rw[cB,abM]
   refine⟨λy a=>?_,uC h.2⟩
   rcases kI.1 a with rfl | a
   .exact c
   .exact h.1 y a
  .rename_i c
   split
   .exact abM.2 h
   .rename_i d
    have b:=zy (by simpa using c) d
    rw[cB,abM]
    refine⟨λy a=>?_,abM.2 h⟩
    rcases aaI.1 a with rfl | a
    .exact b
    .exact qg b (h.1 y a)
theorem IY:∀ (l:List aA) (x:aA),(fj l x).length=l.length∨(fj l x).length=l.length+1
 | [],x=>.inr rfl
 | z :: l,x=>by
  rw[fj]
  split
  .rcases IY l x with h | h <;> simp[h]
  .split <;> simp
theorem FG:∀ {l:List aA} {x:aA},cB l->x∈l->fj l x=l
 | [],x,_,h=>by simp at h
 | z :: l,x,hs,h=>by
  rw[cB,abM] at hs
  rw[fj]
  rcases aaI.1 h with rfl | h
  .rw[aat (by simp[mZ]),aaw rfl]
  .rw[aaw (hs.1 x h),FG hs.2 h]
theorem Fv:∀ {l:List aA} {x:aA},x ∉ l->(fj l x).length=l.length+1
 | [],x,_=>rfl
 | z :: l,x,h=>by
  simp only[aaI,not_or] at h
  rw[fj]
  split
  .simp[Fv h.2]
  .rw[aat (λe=>h.1 e.symm)];rfl
theorem HZ:∀ {l:List aA} {x:aA},(∀ y∈l,cY y x=true)->fj l x=l ++ [x]
 | [],x,_=>rfl
 | z :: l,x,h=>by
  rw[fj,aaw (h z (by simp)),HZ λy a=>h y (by simp[a])];rfl
theorem Bx:∀ {a b:List aA},cB a->cB b->(∀ x,x∈a↔x∈b)->a=b
 | [],[],_,_,_=>rfl
 | [],y :: b,_,_,h=>by have:=(h y).2 (by simp);simp at this
 | x :: a,[],_,_,h=>by have:=(h x).1 (by simp);simp at this
 | x :: a,y :: b,d,e,h=>by
  rw[cB,abM] at d e
  have f:x=y:=by
   have h1:=(h x).1 (by simp)
   have c:=(h y).2 (by simp)
   rcases aaI.1 h1 with h1 | h1
   .exact h1
   .rcases aaI.1 c with c | c
    .exact c.symm
    .have:=qg (d.1 y c) (e.1 x h1)
     rw[mZ] at this;exact absurd this (by simp)
  subst f
  congr 1
  refine Bx d.2 e.2 λz=>?_
  have g:=h z
  simp only[aaI] at g
  constructor
  .intro hm
   rcases g.1 (.inr hm) with rfl | h
   .have:=d.1 z hm;rw[mZ] at this;exact absurd this (by simp)
   .exact h
  .intro hm
   rcases g.2 (.inr hm) with rfl | h
   .have:=e.1 z hm;rw[mZ] at this;exact absurd this (by simp)
   .exact h
theorem Lg:∀ (l:List Int) (a n:Int),l.Pairwise (· < ·)->(∀ x∈l,a<=x/\x < a+n)->0<=n->(l.length:Int)<=n
 | [],a,n,_,_,b=>by simpa using b
 | x :: l,a,n,hp,hm,b=>by
  rw[abM] at hp
  have h1:=hm x (by simp)
  have:=Lg l (x+1) (a+n - (x+1)) hp.2 (λy c=>by have:=hp.1 y c;have:=hm y (by simp[c]);omega) (by omega)
  simp only[aaK];omega
def cG (g:ai) (x:aA):Prop:=(-1<=x.ax/\x.ax < (g.rules.length:Int))/\0<=x.dot/\x.dot<=(aP g x.ax).length
theorem fy {g:ai} (a:g.dM) {r:Int} (h : -1<=r/\r < (g.rules.length:Int)):(aP g r).length<=6:=by
 unfold aP
 split
 .simp
 .have b:g.rules[r.toNat]?=some (aw g r):=by unfold aw;exact getD_some (by omega)
  exact a.right _ (aax b)
theorem gK {g:ai} (e:g.dM) {l:List aA} (hs:cB l) (hl:∀ x∈l,cG g x):l.length<=287:=by
 have hd:∀ x∈l,0<=x.dot/\x.dot<=6:=λx c=>by
  have h1:=hl x c
  have:=fy e h1.1
  exact⟨h1.2.1,by have:=h1.2.2;omega⟩
 have h1:(l.map λx=>(x.ax+1) * 7+x.dot).Pairwise (· < ·):=by
  rw[acu]
  refine List.Pairwise.imp_of_mem ?_ hs
  intro a b f h d
  rw[fo] at d
  have:=hd a f;have:=hd b h
  omega
 have:=Lg _ 0 287 h1 (λy i=>by
  obtain⟨x,c,rfl⟩:=aaM.1 i
  have j:=(hl x c).1
  have:=hd x c;have:=e.rules
  omega) (by omega)
 simp at this
 omega
inductive oW (g:ai) (l:List aA):aA->Prop
 | base {x:aA} : x∈l->oW g l x
 | step {x:aA} {s:Int} {k:Nat} {R:bg} : oW g l x->bp g x=(s,true)->s < 0->g.rules[k]?=some R->R.left = -1 - s->oW g l ⟨k,0⟩
theorem oW.has {g:ai} {l:List aA} (hl:∀ x∈l,cG g x) {x:aA} (h:oW g l x):cG g x:=by
 induction h with
 | base h=>exact hl _ h
 | step _ _ _ hk _ _ =>
  have:=(aaG.1 hk).1
  exact⟨⟨by simp only;omega,by simp only;omega⟩,by simp only;omega,by simp only;omega⟩
def L4 (g:ai):List aA:=(List.range (g.rules.length+1)).flatMap λ(r:Nat)=>(List.range 7).map λ(d:Nat)=>(⟨(r:Int) - 1,(d:Int)⟩:aA)
theorem Pt {g:ai} (a:g.dM) {x:aA} (h:cG g x):x∈L4 g:=by
 have:=fy a h.1
 obtain⟨⟨h1,b⟩,c,e⟩:=h
 simp only[L4,List.mem_flatMap,aaM,abl]
 refine⟨(x.ax+1).toNat,by omega,x.dot.toNat,by omega,?_⟩
 obtain⟨r,d⟩:=x
 simp only at h1 b c e this
 simp only[aA.mk.injEq];omega
theorem vq:∀ (l a:List aA),cB a->cB (l.foldl fj a)/\∀ x,x∈l.foldl fj a↔x∈a∨x∈l
 | [],a,h=>⟨h,λx=>by simp⟩
 | y :: l,a,h=>by
  obtain⟨h1,b⟩:=vq l (fj a y) (uC h)
  refine⟨h1,λx=>?_⟩
  rw[aaR,b,kI,aaI]
  constructor
  .rintro ((h | h) | h) <;> simp[h]
  .rintro (h | h | h) <;> simp[h]
open Classical in
noncomputable def cL (g:ai) (l:List aA):List aA:=((L4 g).filter λx=>decide (oW g l x)).foldl fj []
theorem jk (g:ai) (l:List aA):cB (cL g l):=(vq _ [] .nil).1
theorem c6 {g:ai} (a:g.dM) {l:List aA} (hl:∀ x∈l,cG g x) {x:aA} : x∈cL g l↔oW g l x:=by
 classical
 rw[cL,(vq _ [] .nil).2]
 simp only[List.not_mem_nil,false_or,abj,aaE]
 exact⟨λh=>h.2,λh=>⟨Pt a (h.has hl),h⟩⟩
theorem JD {g:ai} (a:g.dM) {l o:List aA} (hl:∀ x∈l,cG g x) (hs:cB o) (h1:∀ x∈o,oW g l x) (b:∀ x∈l,x∈o)
  (c:∀ x∈o,∀ (s:Int) (k:Nat) (R:bg),bp g x=(s,true)->s < 0->g.rules[k]?=some R->R.left = -1 - s->(⟨k,0⟩:aA)∈o):cL g l=o:=by
 refine Bx (jk g l) hs λx=>?_
 rw[c6 a hl]
 refine⟨λh=>?_,h1 x⟩
 induction h with
 | base h=>exact b _ h
 | step _ d hs hk e f=>exact c _ f _ _ _ d hs hk e
theorem IZ {g:ai} (a:g.dM) {l:List aA} (hl:∀ x∈l,cG g x):(cL g l).length<=287 :=
 gK a (jk g l) λ_ b=>((c6 a hl).1 b).has hl
def bA (g:ai) (l:List aA) (s:Int):List aA:=(l.filter λx=>decide (bp g x=(s,true))).map λx=>⟨x.ax,x.dot+1⟩
theorem mS {g:ai} {l:List aA} {s:Int} {y:aA} : y∈bA g l s↔∃ x∈l,bp g x=(s,true)/\y=⟨x.ax,x.dot+1⟩:=by
 simp only[bA,aaM,abj,aaE]
 constructor
 .rintro⟨x,⟨h1,a⟩,rfl⟩;exact⟨x,h1,a,rfl⟩
 .rintro⟨x,h1,a,rfl⟩;exact⟨x,⟨h1,a⟩,rfl⟩
theorem Ht {g:ai} {l:List aA} (s:Int) (h:cB l):cB (bA g l s):=by
 rw[cB,bA,acu]
 refine(h.filter _).imp ?_
 intro a b c
 rw[fo] at c ⊢
 simp only;omega
theorem si {g:ai} {x:aA} {s:Int} (h:bp g x=(s,true)):x.dot≠(aP g x.ax).length/\(aP g x.ax).getD x.dot.toNat 0=s:=by
 unfold bp at h
 split at h
 .simp at h
 .rename_i hd;exact⟨hd,by simpa using h⟩
theorem J4 {g:ai} {l:List aA} {s:Int} (hl:∀ x∈l,cG g x):∀ y∈bA g l s,cG g y:=by
 intro y a
 obtain⟨x,b,c,rfl⟩:=mS.1 a
 have h1:=hl x b
 have d:=(si c).1
 exact⟨h1.1,by simp only;have:=h1.2;omega,by simp only;have:=h1.2;omega⟩
theorem Tu {g:ai} {l:List aA} (hs:cB l) {i:Nat} {x:aA} (b:l[i]?=some x) (s:Int) :
  bA g (l.take (i+1)) s=if bp g x=(s,true) then fj (bA g (l.take i) s) ⟨x.ax,x.dot+1⟩ else bA g (l.take i) s:=by
 have e:l.take (i+1)=l.take i ++ [x]:=by rw[aaQ,b];rfl
 rw[e]
 split
 .rename_i h
  rw[HZ]
  .simp[bA,h]
  .intro y c
   obtain⟨z,d,_,rfl⟩:=mS.1 c
   have a:cB (l.take (i+1)):=hs.sublist (List.take_sublist _ _)
   rw[e,cB,List.pairwise_append] at a
   have:=a.2.2 z d x (by simp)
   rw[fo] at this ⊢
   simp only;omega
 .rename_i h
  simp[bA,h]
theorem vL {g:ai} {l:List aA} {s:Int} : (bA g l s).length<=l.length:=by
 rw[bA,aaA];exact abh _ _
structure aL where
 bc:List aA
 aJ:List cr
 deriving DecidableEq
abbrev aN:aL:=⟨[],[]⟩
def bh (g:ai) (i:Nat):Int:=if i < g.af.length then i else -1 - ((i:Int) - g.af.length)
def findD:List aL->List aA->Int
 | [],_=>-1
 | s :: l,k=>if s.bc=k then 0 else if findD l k < 0 then -1 else findD l k+1
theorem vn:∀ (l:List aL) (k:List aA),-1<=findD l k
 | [],_=>by simp[findD]
 | s :: l,k=>by
  have:=vn l k
  rw[findD];split
  .omega
  .split <;> omega
theorem zp:∀ (l:List aL) (k:List aA),findD l k < l.length
 | [],_=>by simp[findD]
 | s :: l,k=>by
  have:=zp l k
  rw[findD];simp only[aaK];split
  .omega
  .split <;> omega
theorem KL:∀ (l:List aL) (k:List aA) (i:Nat),findD l k=i->∃ s,l[i]?=some s/\s.bc=k
 | [],_,i,h=>by simp[findD] at h
 | s :: l,k,i,h=>by
  rw[findD] at h
  split at h
  .rename_i e
   have:i=0:=by omega
   subst this
   exact⟨s,rfl,e⟩
  .split at h
   .omega
   .obtain⟨j,rfl⟩:∃ j,i=j+1:=⟨i - 1,by omega⟩
    obtain⟨t,h1,a⟩:=KL l k j (by omega)
    exact⟨t,by simpa using h1,a⟩
theorem KC:∀ (l:List aL) (k:List aA),findD l k < 0->∀ s∈l,s.bc≠k
 | [],_,_,s,hs=>by simp at hs
 | t :: l,k,h,s,hs=>by
  rw[findD] at h
  split at h
  .omega
  .rename_i a
   have hl:findD l k < 0:=by
    split at h
    .assumption
    .omega
   rcases aaI.1 hs with rfl | hs
   .exact a
   .exact KC l k hl s hs
theorem Lr:∀ (l:List aL) (k:List aA) (i:Nat) (s:aL),l[i]?=some s->s.bc=k->(∀ j t,j < i->l[j]?=some t->t.bc≠k)->findD l k=i
 | [],_,_,_,h,_,_=>by simp at h
 | t :: l,k,0,s,h,hk,_=>by simp at h;subst h;simp[findD,hk]
 | t :: l,k,i+1,s,h,hk,a=>by
  have b:=a 0 t (by omega) rfl
  have:=Lr l k i s (by simpa using h) hk λj u c hu=>a (j+1) u (by omega) (by simpa using hu)
  rw[findD,aat b,this,aat (by omega)];omega
theorem E7:∀ (l:List aL) (k:List aA),(∀ s∈l,s.bc≠k)->findD l k = -1
 | [],_,_=>rfl
 | t :: l,k,h=>by
  have:=E7 l k λs hs=>h s (by simp[hs])
  rw[findD,aat (h t (by simp)),this];rfl
def dA (g:ai) (l:List aA) (at_:Nat) (out:List aL) (i:Nat):List aL :=
 if bA g l (bh g i)=[] then out else
 if findD out (bA g l (bh g i)) < 0 then (out ++ [(⟨bA g l (bh g i),[]⟩:aL)]).modify at_ λs=>(⟨s.bc,s.aJ ++ [⟨bh g i,out.length⟩]⟩:aL)
 else out.modify at_ λs=>(⟨s.bc,s.aJ ++ [⟨bh g i,findD out (bA g l (bh g i))⟩]⟩:aL)
noncomputable def DY (g:ai) (at_:Nat) (out:List aL) (n:Nat):List aL:=(List.range n).foldl (dA g (cL g (out.getD at_ aN).bc) at_) out
noncomputable def gz (g:ai):Nat->Nat->List aL->List aL × Int
 | 0,_,out=>(out,0)
 | f+1,at_,out=>if at_ < out.length then
   (if 300 < (DY g at_ out (g.af.length+g.ak.length)).length then ([],5) else gz g f (at_+1) (DY g at_ out (g.af.length+g.ak.length)))
  else (out,0)
def eA:List aL:=[⟨[⟨-1,0⟩],[]⟩]
abbrev BV:=BitVec 32
def dT (n:Int):BV:=if 0<=n/\n<=31 then BitVec.twoPow 32 n.toNat else 0
theorem yB {a b:BV} (h:∀ i,i < 32->a.getLsbD i=b.getLsbD i):a=b:=BitVec.eq_of_getLsbD_eq λi hi=>h i hi
def iL (a b:BV):Prop:=∀ i,a.getLsbD i=true->b.getLsbD i=true
theorem GF {a b:BV} : (a ||| b)=b↔iL a b:=by
 constructor
 .intro h i hi
  rw[<-h,aa5,hi];rfl
 .intro h
  refine yB λi _=>?_
  rw[aa5]
  cases c:a.getLsbD i with
  | false=>rfl
  | true=>rw[h i c];rfl
theorem Dm {a b:BV} : (a &&& ~~~b)=0↔iL a b:=by
 constructor
 .intro h i hi
  have hl:i < 32:=BitVec.lt_of_getLsbD hi
  have:=abk (λx:BV=>x.getLsbD i) h
  simp only[BitVec.getLsbD_and,BitVec.getLsbD_not,hi] at this
  simpa [hl] using this
 .intro h
  refine yB λi hl=>?_
  simp only[BitVec.getLsbD_and,BitVec.getLsbD_not]
  cases c:a.getLsbD i with
  | false=>simp
  | true=>rw[h i c];simp
theorem Sc {a:BV} : a=0↔∀ i,a.getLsbD i=false:=by
 constructor
 .rintro rfl i;simp
 .intro h;exact yB λi _=>by rw[h];simp
theorem YX (a b:BV):b.toNat<=(a ||| b).toNat:=by
 rw[BitVec.toNat_or];exact Nat.right_le_or
def ed (null:List Bool) (first:List BV) (rest:BV):List Int->BV
 | []=>rest
 | s :: l=>if 0<=s then dT s else if null.getD (-1 - s).toNat false=true then first.getD (-1 - s).toNat 0 ||| ed null first rest l else first.getD (-1 - s).toNat 0
theorem LO {null:List Bool} {first:List BV} {a b:BV} (h:iL a b):∀ l:List Int,iL (ed null first a l) (ed null first b l)
 | []=>h
 | s :: l=>by
  intro i hi
  rw[ed] at hi ⊢
  split
  .rename_i c;rw[aaw c] at hi;exact hi
  .rename_i c
   rw[aat c] at hi
   split
   .rename_i h1
    rw[aaw h1] at hi
    rw[aa5,abt] at hi ⊢
    exact hi.imp id (LO h l i)
   .rename_i h1;rw[aat h1] at hi;exact hi
theorem Xu {null:List Bool} {first:List BV} {a:BV} : ∀ (l:List Int) (i:Nat),(ed null first a l).getLsbD i=true->a≠0->∃ t,a.getLsbD t=true/\(ed null first (BitVec.twoPow 32 t) l).getLsbD i=true:=by
 intro l i
 have b:a≠0->∃ t,a.getLsbD t=true:=λh=>abK λf=>h (Sc.2 λj=>by
  cases g:a.getLsbD j with
  | false=>rfl
  | true=>exact absurd ⟨j,g⟩ f)
 induction l with
 | nil =>
  intro h _
  refine⟨i,h,?_⟩
  rw[ed,abU]
  have:=BitVec.lt_of_getLsbD h
  simp[this]
 | cons s l k =>
  intro h e
  rw[ed] at h
  split at h
  .rename_i c
   obtain⟨t,d⟩:=b e
   exact⟨t,d,by rw[ed,aaw c];exact h⟩
  .rename_i c
   split at h
   .rename_i h1
    rw[aa5,abt] at h
    rcases h with h | h
    .obtain⟨t,d⟩:=b e
     exact⟨t,d,by rw[ed,aat c,aaw h1,aa5,h];rfl⟩
    .obtain⟨t,m,n⟩:=k h e
     exact⟨t,m,by rw[ed,aat c,aaw h1,aa5,n,Bool.or_true]⟩
   .rename_i h1
    obtain⟨t,d⟩:=b e
    exact⟨t,d,by rw[ed,aat c,aat h1];exact h⟩
theorem OR {a:BV} {t:Nat} (h:a.getLsbD t=true):iL (BitVec.twoPow 32 t) a:=by
 intro i hi
 rw[abU] at hi
 simp only[aaB,aaE] at hi
 rw[<-hi.2];exact h
def lW (null:List Bool) (fs:List BV) (r:bg):List BV:=fs.set r.left.toNat (fs.getD r.left.toNat 0 ||| ed null fs 0 r.right)
theorem Hy (null:List Bool) (a:List BV) (r:bg):(lW null a r).length=a.length:=by simp[lW]
def vF (g:ai) (null:List Bool) (fs:List BV):List BV:=g.rules.foldl (lW null) fs
theorem Hi (null:List Bool):∀ (l:List bg) (a:List BV),(l.foldl (lW null) a).length=a.length
 | [],_=>rfl
 | r :: l,a=>by rw[aaR,Hi null l,Hy]
theorem OQ (g:ai) (null:List Bool) (a:List BV):(vF g null a).length=a.length:=Hi _ _ _
def cZ (g:ai) (null:List Bool):List BV:=iter (vF g null) g.ak.length (List.replicate g.ak.length 0)
theorem Bu {f:List BV->List BV} (a:∀ l,(f l).length=l.length):∀ (n:Nat) (l:List BV),(iter f n l).length=l.length
 | 0,_=>rfl
 | n+1,l=>by rw[iter,Bu a n,a]
theorem FR (g:ai) (null:List Bool):(cZ g null).length=g.ak.length:=by
 rw[cZ,Bu (OQ g null)];simp
end Gv
