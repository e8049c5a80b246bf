/-
  Part 11 of the proof: what the machine does and what the functions answer.
  Conditions: those that each lemma names.
-/
import Derived.Test.YtiophifnkakjgaaGreatSGzB6J
set_option linter.unusedSimpArgs false
set_option linter.unusedVariables false
set_option maxRecDepth 100000
set_option maxHeartbeats 20000000
namespace Gv
open Go Go.Proofs
theorem bytes_beq (a b:ByteArray):(a == b)=decide (a=b):=by
 cases a with | mk a=>cases b with | mk b =>
 rw[V1]
 show (ByteArray.beq ⟨a⟩ ⟨b⟩=true)↔_
 simp only[ByteArray.beq]
 simp
theorem NU (a b:ByteArray):jj a b=decide (a=b):=by
 cases a with | mk a=>cases b with | mk b =>
 rw[V1]
 simp[jj]
theorem CG {α:Type} {a b:List α} {i:Nat} {x y:α} (c:a[i]?=some x) (d:b[i]?=some y) (h:a.take i=b.take i) (e:x=y):a.take (i+1)=b.take (i+1):=by
 rw[Vs,Vs,h,c,d,e]
theorem G3 {α:Type} {a b:List α} {i:Nat} (c:a.length<=i) (d:b.length<=i) (h:a.take i=b.take i):a=b:=by
 rwa [Vn c,Vn d] at h
theorem LK {α:Type} {a b:List α} {i:Nat} {x y:α} (d:a[i]?=some x) (c:b[i]?=some y) (e:x≠y):a≠b:=by
 rintro rfl;rw[d] at c;exact e (by simpa using c)
theorem Gt {α:Type} {a b:List α} (h:¬ a.length=b.length):a≠b:=λe=>h (by rw[e])
theorem Iq (x y:Term):fK Tryz.prog 9998 #[.string x.name,.int .i64 x.level,.int .i64 x.assoc] #[.string y.name,.int .i64 y.level,.int .i64 y.assoc]
  [{ name:= "Name",type:=9,offset:=0,embedded:=false,tag:= "",pkgPath:= "",byteOffset:=0 },{ name:= "Level",type:=3,offset:=1,embedded:=false,tag:= "",pkgPath:= "",byteOffset:=16 },
   { name:= "Assoc",type:=3,offset:=2,embedded:=false,tag:= "",pkgPath:= "",byteOffset:=24 }] (x.name == y.name && (x.level == y.level && (x.assoc == y.assoc && true))) :=
 .str _ _ _ _ _ (by decide) Tryz.underlying9 rfl rfl (.int _ _ _ _ _ _ (by decide) Tryz.underlying3 rfl rfl (.int _ _ _ _ _ _ (by decide) Tryz.underlying3 rfl rfl .nil))
theorem Rm (x y:Term):(x.name == y.name && (x.level == y.level && (x.assoc == y.assoc && true)))=decide (x=y):=by
 rw[bytes_beq,V1]
 cases x;cases y
 simp
theorem Pl (x y:ae):decide (x=y)=(decide (x.ai=y.ai) && (decide (x.ao=y.ao) && (decide (x.rules=y.rules) && decide (x.start=y.start)))):=by
 cases x;cases y
 rw[V1]
 simp
theorem O2 (g k:ae):∀ v∈[V.agg (ag g),V.agg (ag k)],Tree v:=by
 intro v a;simp at a
 rcases a with rfl | rfl <;> exact bz _ (bE _)
def nz:SC :=
 af [af [ab [aa 42 5,au 43 0 2,aj 44 43,aP 45 44,aV 46 .lss 42 45],bW 46 (.exit 0)],.block 1 (af [ab [au 49 0 2,aj 50 49,aa 51 5,aM 52 3 50 51,aU 53 3 52,au 54 0 3,aj 55 54,aa 56 5,aM 57 3 55 56,aU 58 3 57,((some 59),.op (.old (.binOp .neq 130 (.tmp 53) (.tmp 58) 130) 4))],bg 59 (af [ab [bu 4 false],.ret])]),ab [aa 47 5,aE 48 .add 47 1,aa 5 48]]
def nZ:SC :=
 af [af [ab [aa 60 6,au 61 1 2,aj 62 61,aP 63 62,aV 64 .lss 60 63],bW 64 (.exit 2)],.block 3 (af [ab [au 67 1 2,aj 68 67,aa 69 6,aM 70 1 68 69,aj 71 70,au 72 1 3,aj 73 72,aa 74 6,aM 75 1 73 74,aj 76 75,((some 77),.op (.xR .neq (.tmp 71) (.tmp 76)))],bg 77 (af [ab [bu 4 false],.ret])]),ab [aa 65 6,aE 66 .add 65 1,aa 6 66]]
def oo:SC :=
 af [af [ab [aa 78 7,au 79 2 2,aj 80 79,aP 81 80,aV 82 .lss 78 81],bW 82 (.exit 4)],.block 5 (af [ab [au 85 2 2,aj 86 85,aa 87 7,aM 88 3 86 87,aU 89 3 88,au 90 2 3,aj 91 90,aa 92 7,aM 93 3 91 92,aU 94 3 93,((some 8),.op (.alloc [(.val (.int .i64 0)),(.emp 1),(.val (.int .i64 0))])),((some 9),.op (.alloc [(.val (.int .i64 0)),(.emp 1),(.val (.int .i64 0))])),cG 3 8 89,cG 3 9 94],.region false [⟨none,[au 95 0 8,aj 96 95,au 97 0 9,aj 98 97,aV 99 .neq 96 98,aa 100 99]⟩,⟨(some (100,false)),[au 101 2 8,aj 102 101,au 103 2 9,aj 104 103,aV 105 .neq 102 104]⟩,⟨none,[bP 106 100 105,aa 107 106]⟩,⟨(some (107,false)),[au 108 1 8,aj 109 108,au 110 1 9,aj 111 110,ba 112 26 [109,111],cb 113 112]⟩,⟨none,[bP 114 107 113]⟩],bg 114 (af [ab [bu 4 false],.ret])]),ab [aa 83 7,aE 84 .add 83 1,aa 7 84]]
def qk:SF:=⟨af [ab [cd 2 0,cd 3 1,bu 4 false],af [.region false [⟨none,[au 10 0 2,aj 11 10,aP 12 11,au 13 0 3,aj 14 13,aP 15 14,aV 16 .neq 12 15,aa 17 16]⟩,⟨(some (17,false)),[au 18 1 2,aj 19 18,aP 20 19,au 21 1 3,aj 22 21,aP 23 22,aV 24 .neq 20 23]⟩,⟨none,[bP 25 17 24,aa 26 25]⟩,⟨(some (26,false)),[au 27 2 2,aj 28 27,aP 29 28,au 30 2 3,aj 31 30,aP 32 31,aV 33 .neq 29 32]⟩,⟨none,[bP 34 26 33,aa 35 34]⟩,⟨(some (35,false)),[au 36 3 2,aj 37 36,au 38 3 3,aj 39 38,aV 40 .neq 37 39]⟩,⟨none,[bP 41 35 40]⟩],bg 41 (af [ab [bu 4 false],.ret])],af [ab [aT 5 0],bX 0 nz],af [ab [aT 6 0],bX 2 nZ],af [ab [aT 7 0],bX 4 oo],ab [bu 4 true],.ret],
 [.tmp 4],115⟩
theorem vi:aQ Tryz.prog 31 [2,3]=some qk:=by kernel_rfl
theorem OV (g k:ae) (o:g.Ok):ay Tryz.prog 31 [.agg (ag g),.agg (ag k)] (gb (decide (g=k))):=by
 refine ay.val (O2 g k) λH=>?_
 rw[Pl]
 refine aw.of mixed vi ?_
 have h1:=o.ai
 have v:=o.ao
 have w:=o.rules
 unfold aH at h1 v w
 simp(disch:=omega)only[↓wr,seval,wq,qk,ag,encS]
 repeat' (first | ((first|apply ah.dec|apply ah.eq|apply ah.ne|apply ah.split)<;>intro)|(simp(disch:=omega)only[↓wr,seval,wq,ag,encS]))
 .rename_i e;rw[decide_eq_false (Gt (by omega))];rfl
 .rename_i e;rw[decide_eq_false (p:=g.ao=k.ao) (Gt (by omega))];simp
 .rename_i e;rw[decide_eq_false (p:=g.rules=k.rules) (Gt (by omega))];simp
 .rename_i e;rw[decide_eq_false e];simp
 rename_i A B C z
 refine bc.up g.ai.length (λi T _=>g.ai.take i=k.ai.take i/\T 2=.aF (ag g) 0/\T 3=.aF (ag k) 0/\T 5=gi i) ⟨by simp,rfl,rfl,rfl⟩ ?_
 rintro i m T H hm ⟨hi,t2,t3,t5⟩
 simp(disch:=omega)only[↓wr,seval,wq,nz,t2,t3,t5,ag,encS]
 apply ah.dec<;>intro d
 .have a:=U6 (l:=g.ai) (i:=i) (by omega)
  have b:=U6 (l:=k.ai) (i:=i) (by omega)
  generalize g.ai[i]'(by omega)=x at a
  generalize k.ai[i]'(by omega)=y at b
  simp(disch:=omega)only[↓wr,seval,wq,t2,t3,t5,U9,a,b,cO,ag,encS]
  refine lM (xs:=#[.string x.name,.int .i64 x.level,.int .i64 x.assoc]) (ys:=#[.string y.name,.int .i64 y.level,.int .i64 y.assoc]) Tryz.underlying130 (by kernel_rfl) (by kernel_rfl) ?_ ?_ (Iq x y) (.inr ⟨rfl,rfl⟩) ?_
  .rfl
  .rfl
  rw[Rm]
  simp(disch:=omega)only[↓wr,seval,wq,t2,t3,t5]
  apply ah.split<;>intro e
  .simp(disch:=omega)only[↓wr,seval,wq,t2,t3,t5]
   exact aI hm (by omega) ⟨CG a b hi (by simpa using e),t2,t3,rfl⟩
  .simp(disch:=omega)only[↓wr,seval,wq,t2,t3,t5]
   rw[decide_eq_false (LK a b (by simpa using e))];rfl
 have s:g.ai=k.ai:=G3 (by omega) (by omega) hi
 simp(disch:=omega)only[↓wr,seval,wq,t2,t3,t5]
 clear hi d hm
 refine bc.up g.ao.length (λi T _=>g.ao.take i=k.ao.take i/\T 2=.aF (ag g) 0/\T 3=.aF (ag k) 0/\T 6=gi i) ⟨by simp,t2,t3,rfl⟩ ?_
 clear t2 t3 t5 T H i m
 rintro i m T H hm ⟨hi,t2,t3,t5⟩
 simp(disch:=omega)only[↓wr,seval,wq,nZ,t2,t3,t5,ag,encS]
 apply ah.dec<;>intro d
 .have a:=U6 (l:=g.ao) (i:=i) (by omega)
  have b:=U6 (l:=k.ao) (i:=i) (by omega)
  generalize g.ao[i]'(by omega)=x at a
  generalize k.ao[i]'(by omega)=y at b
  simp(disch:=omega)only[↓wr,seval,wq,t2,t3,t5,U9,a,b,cO,ag,encS,NU]
  apply ah.split<;>intro e
  .simp(disch:=omega)only[↓wr,seval,wq,t2,t3,t5]
   exact aI hm (by omega) ⟨CG a b hi (by simpa using e),t2,t3,rfl⟩
  .simp(disch:=omega)only[↓wr,seval,wq,t2,t3,t5]
   rw[decide_eq_false (p:=g.ao=k.ao) (LK a b (by simpa using e))];simp
 have t:g.ao=k.ao:=G3 (by omega) (by omega) hi
 simp(disch:=omega)only[↓wr,seval,wq,t2,t3,t5]
 clear hi d hm
 refine bc.up g.rules.length (λi T _=>g.rules.take i=k.rules.take i/\T 2=.aF (ag g) 0/\T 3=.aF (ag k) 0/\T 7=gi i) ⟨by simp,t2,t3,rfl⟩ ?_
 clear t2 t3 t5 T H i m
 rintro i m T H hm ⟨hi,t2,t3,t5⟩
 simp(disch:=omega)only[↓wr,seval,wq,oo,t2,t3,t5,ag,encS]
 apply ah.dec<;>intro d
 .have a:=U6 (l:=g.rules) (i:=i) (by omega)
  have b:=U6 (l:=k.rules) (i:=i) (by omega)
  have j:g.rules[i]'(by omega)∈g.rules:=Vg _
  generalize g.rules[i]'(by omega)=x at a j
  generalize k.rules[i]'(by omega)=y at b
  have q:=(o.al x j).2.2.1
  simp(disch:=omega)only[↓wr,seval,wq,t2,t3,t5,U9,a,b,aW,encI,ag,encS]
  intro n D
  try simp(disch:=omega)only[↓wr,seval,wq,t2,t3,t5,aW,encI]
  intro E r
  have c:=(bS r bQ).1
  try simp(disch:=omega)only[↓wr,seval,wq,t2,t3,t5,aW,encI,c,c.symm]
  have f:x≠y->V.val (Value.bool false)=V.val (Value.bool (decide (g.ai=k.ai) && (decide (g.ao=k.ao) && (decide (g.rules=k.rules) && decide (g.start=k.start))))):=λe=>by
   rw[decide_eq_false (p:=g.rules=k.rules) (LK a b e)];simp
  repeat' (first | ((first|apply ah.dec|apply ah.eq|apply ah.ne|apply ah.split)<;>intro)|(refine av.pure (RY x.right y.right q) ?_)|(simp(disch:=omega)only[↓wr,seval,wq,t2,t3,t5,aW,encI,c,c.symm]))
  .rename_i e;exact f λh=>e (by rw[h])
  .rename_i e;exact f λh=>e (by rw[h])
  .rename_i u t s
   refine aI hm (by omega) ⟨CG a b hi ?_,t2,t3,rfl⟩
   cases x;cases y
   simp_all
  .rename_i e;exact f λh=>by rw[h] at e;simp at e
 .have u:g.rules=k.rules:=G3 (by omega) (by omega) hi
  simp(disch:=omega)only[↓wr,seval,wq,t2,t3,t5]
  simp[s,t,u,z]
def rL:SF:=⟨af [ab [cd 1 0,bu 2 false],ab [aU 7 4 1,ba 8 47 [7],aa 6 8,cZ 9 0 6,cZ 10 1 6,cZ 11 2 6,((some 3),.op (.alloc [(.emp 1),(.emp 1),(.emp 1),(.val (.int .i64 0))])),cG 4 3 9,aa 4 10,aa 5 11],.region false [⟨none,[aa 12 5,aE 13 .eql 12 0,aa 14 13]⟩,⟨(some (14,true)),[aU 15 4 1,aU 16 4 3,ba 17 31 [15,16]]⟩,⟨none,[c8 18 14 17,aa 2 18]⟩],.ret],
 [.tmp 2],19⟩
theorem xk:aQ Tryz.prog 15 [1]=some rL:=by kernel_rfl
theorem NI (g:ae) (a:g.Ok):ay Tryz.prog 15 [.agg (ag g)] (gb (isRed g)):=by
 refine ay.val (eP g) λH=>?_
 refine aw.of mixed xk ?_
 simp(disch:=omega)only[↓wr,seval,wq,rL,ag,encS]
 refine av.pure (Il g a).pure ?_
 unfold isRed
 generalize dV g=x
 obtain⟨k,b,e⟩:=x
 simp(disch:=omega)only[↓wr,seval,wq,vQ,ag,encS]
 intro n c
 apply ah.eq<;>intro h
 .simp(disch:=omega)only[↓wr,seval,wq,vQ,ag,encS]
  refine av.pure (OV g k a) ?_
  simp(disch:=omega)only[↓wr,seval,wq]
  simp[h]
 .simp(disch:=omega)only[↓wr,seval,wq]
  simp[h]
def Tq:ae:=⟨[⟨⟨#[39,97,39]⟩,0,0⟩,⟨⟨#[39,98,39]⟩,0,0⟩,⟨⟨#[39,99,39]⟩,0,0⟩,⟨⟨#[39,100,39]⟩,0,0⟩],[⟨#[115]⟩,⟨#[117]⟩,⟨#[118]⟩],[⟨0,[0,(-2)],0⟩,⟨0,[1],1⟩,⟨0,[],(-1)⟩,⟨1,[(-2),2],2⟩,⟨2,[3,(-1)],3⟩],0⟩
def Sk:ae:=⟨Tq.ai,[⟨#[115]⟩],[⟨0,[1],1⟩,⟨0,[],(-1)⟩],0⟩
theorem oP:isRed Sk=true:=by kernel_rfl
theorem cM.fr {h:aB} {v t:V} (f:cM h v t):Fr h v t:=by
 induction f with
 | val v=>exact .tree _ (.val _)
 | emp k=>exact .emp k
 | sl id off len esz z es es' h1 c d e _ b=>exact .sl id off len esz z es es' h1 c d e b
 | agg cs a h1 _ b=>exact .agg cs a h1 b
 | bm cs a h1 _ b=>exact .bm cs a h1 b
def df {κ:Type} (kv:κ->V) (m:dk κ):List (V × V × Nat):=m.map λx=>(kv x.1,x.2.1,x.2.2)
structure Hn {κ:Type} [BEq κ] (P:Program) (kt:TypeId) (kv:κ->V):Prop where
 find:∀ k e m,lW P kt (kv k) e (df kv m)=some (fX k m)
 same:∀ k,sameKey (kv k) (kv k)=true
def jW {κ:Type} (m:dk κ) (c:Nat):Prop:=(m.map (·.2.2)).Nodup/\∀ x∈m,x.2.2 < c
def jm {κ:Type} [BEq κ] (m:dk κ) (k:κ):Option Nat:=(m.find? λx=>k == x.1).map (·.2.2)
section
variable {κ:Type} [BEq κ] [LawfulBEq κ] {kv:κ->V}
theorem mb (k:κ):∀ m:dk κ,match fX k m with
  | some i=>∃ x,m[i]?=some x/\x.1=k/\getM m k=some x.2.1/\jm m k=some x.2.2/\(df kv m)[i]?=some (kv k,x.2.1,x.2.2)/\∀ v c,(df kv m).set i (kv k,v,x.2.2)=df kv (cy k v c m)/\jm (cy k v c m) k=some x.2.2/\(cy k v c m).map (·.2.2)=m.map (·.2.2)
  | none=>getM m k=none/\jm m k=none/\∀ v c,df kv m ++ [(kv k,v,c)]=df kv (cy k v c m)/\jm (cy k v c m) k=some c/\(cy k v c m).map (·.2.2)=m.map (·.2.2) ++ [c]
 | []=>⟨rfl,rfl,λv c=>⟨rfl,by simp[cy,jm],rfl⟩⟩
 | x :: r=>by
  have a:=mb k r
  simp only[fX]
  cases hk:k == x.1 with
  | true =>
   have b:x.1=k:=(eq_of_beq hk).symm
   exact⟨x,rfl,b,by simp[getM,hk],by simp[jm,hk],by simp[df,b],λv c=>by simp[cy,hk,df,jm]⟩
  | false =>
   simp only[VE,if_false]
   cases hi:fX k r with
   | some i =>
    rw[hi] at a
    obtain⟨y,h1,d,e,f,g,h⟩:=a
    refine⟨y,by simpa using h1,d,by simpa [getM,hk] using e,by simpa [jm,hk] using f,by simpa [df] using g,λv c=>?_⟩
    obtain⟨g1,g2,g3⟩:=h v c
    exact⟨by simp only[df] at g1 ⊢;simp[cy,hk,g1],by simpa [cy,hk,jm] using g2,by simp[cy,hk,g3]⟩
   | none =>
    rw[hi] at a
    refine⟨by simpa [getM,hk] using a.1,by simpa [jm,hk] using a.2.1,λv c=>?_⟩
    obtain⟨g1,g2,g3⟩:=a.2.2 v c
    exact⟨by simp only[df] at g1 ⊢;simp[cy,hk,g1],by simpa [cy,hk,jm] using g2,by simp[cy,hk,g3]⟩
theorem jW.put {m:dk κ} {c:Nat} (h:jW m c) (k:κ) (v:V):jW (cy k v c m) (c+1):=by
 have f:=mb (kv:=λ_=>V.any) k m
 cases i:fX k m with
 | some j =>
  rw[i] at f
  obtain⟨y,_,_,_,_,_,n⟩:=f
  have e:=(n v c).2.2
  refine⟨by rw[e];exact h.1,λx g=>?_⟩
  have:x.2.2∈m.map (·.2.2):=by rw[<-e];exact Vv.2 ⟨x,g,rfl⟩
  obtain⟨y,d,o⟩:=Vv.1 this
  have:=h.2 y d
  omega
 | none =>
  rw[i] at f
  have e:=(f.2.2 v c).2.2
  refine⟨?_,λx g=>?_⟩
  .rw[e,List.nodup_append]
   refine⟨h.1,by simp,λa p b l=>?_⟩
   simp at l;subst l
   obtain⟨y,d,rfl⟩:=Vv.1 p
   have:=h.2 y d
   omega
  .have:x.2.2∈m.map (·.2.2) ++ [c]:=by rw[<-e];exact Vv.2 ⟨x,g,rfl⟩
   rcases VK.1 this with h1 | h1
   .obtain⟨y,d,o⟩:=Vv.1 h1
    have:=h.2 y d
    omega
   .simp at h1;omega
theorem jW.Sj {m:dk κ} {c:Nat} (h:jW m c) {k:κ} {b:Nat} (d:jm m k=some b) (v:V) (f:Nat):jW (cy k v f m) c:=by
 have a:=mb (kv:=λ_=>V.any) k m
 cases g:fX k m with
 | some j =>
  rw[g] at a
  obtain⟨y,_,_,_,_,_,i⟩:=a
  have e:=(i v f).2.2
  refine⟨by rw[e];exact h.1,λx l=>?_⟩
  have:x.2.2∈m.map (·.2.2):=by rw[<-e];exact Vv.2 ⟨x,l,rfl⟩
  obtain⟨y,n,o⟩:=Vv.1 this
  have:=h.2 y n
  omega
 | none =>
  rw[g] at a
  rw[a.2.1] at d;simp at d
omit [BEq κ] [LawfulBEq κ] in
theorem find_born (b:Nat):∀ (m:dk κ) (i:Nat) (x:κ × V × Nat),(m.map (·.2.2)).Nodup->m[i]?=some x->x.2.2=b->(df kv m).findIdx? (λe=>e.2.2 == b)=some i
 | [],i,x,_,h,_=>by simp at h
 | y :: m,0,x,a,h,e=>by
  simp at h;subst h
  simp[df,List.findIdx?_cons,e]
 | y :: m,i+1,x,a,h,e=>by
  simp only[VF,V9] at a
  have h:m[i]?=some x:=by simpa using h
  have f:x∈m:=Vc h
  have c:¬ y.2.2=b:=λg=>a.1 (by rw[g,<-e];exact Vv.2 ⟨x,f,rfl⟩)
  have d:=find_born b m i x a.2 h e
  simp only[df] at d
  simp[df,List.findIdx?_cons,c,d]
variable {P:Program} {T:Env} {H:View} {kt et t ty:TypeId}
theorem QM {K:V->View->Prop} {w:cP (T,H,K)} {x i:Operand} {z:V} {id c:Nat} {m:dk κ} {k:κ} (hm:dS P t=some (kt,et)) (d:zeroV P et=some z) (hk:Hn P kt kv)
  (e:ev T x=.mp id) (hi:ev T i=kv k) (hH:H id=.map (df kv m) c) (h:K ((getM m k).getD z) H):pA P (.lookup t x i false) ty T H K w:=by
 intro n _
 have f:=hk.find k (df kv m).isEmpty m
 have a:=mb (kv:=kv) k m
 refine⟨(getM m k).getD z,.none,[id],?_,h⟩
 simp only[sI,bZ,oper,eN,hm,d,e,hi,hH,f]
 cases b:fX k m with
 | some j =>
  rw[b] at a
  obtain⟨y,h1,o,g,p,l,_⟩:=a
  simp[l,g]
 | none =>
  rw[b] at a
  simp[a.1]
theorem DU {z:V} {id c:Nat} {m:dk κ} {k:κ} (hm:dS P t=some (kt,et)) (l:zeroV P et=some z) (hk:Hn P kt kv) (hH:H id=.map (df kv m) c) (e:jW m c) :
  ∃ b f,dP P t (.mp id) (kv k) H=some (.bm [(getM m k).getD z,cF b],.fj id (.map (df kv (cy k ((getM m k).getD z) c m)) f),[id])/\jW (cy k ((getM m k).getD z) c m) f/\jm (cy k ((getM m k).getD z) c m) k=some b:=by
 have d:=hk.find k false m
 have a:=mb (kv:=kv) k m
 cases g:fX k m with
 | some j =>
  rw[g] at a d
  obtain⟨y,h1,p,h,n,o,i⟩:=a
  refine⟨y.2.2,c,?_,?_,?_⟩
  .simp only[dP,hm,hH,d,o,hk.same k,if_true,h,Vo]
   rw[(i y.2.1 c).1]
  .exact e.Sj n _ _
  .rw[h];exact(i _ c).2.1
 | none =>
  rw[g] at a d
  refine⟨c,c+1,?_,e.put k _,?_⟩
  .simp only[dP,hm,hH,d,l,a.1,Option.getD_none]
   rw[(a.2.2 z c).1]
  .rw[a.1];exact(a.2.2 _ c).2.1
theorem Tg {K:V->View->Prop} {w:cP (T,H,K)} {x i:Operand} {z:V} {id c:Nat} {m:dk κ} {k:κ} (hm:dS P t=some (kt,et)) (d:zeroV P et=some z) (hk:Hn P kt kv)
  (e:ev T x=.mp id) (hi:ev T i=kv k) (hH:H id=.map (df kv m) c) (f:jW m c)
  (h:∀ b a,jW (cy k ((getM m k).getD z) c m) a->jm (cy k ((getM m k).getD z) c m) k=some b->K (.bm [(getM m k).getD z,cF b]) (H.set id (.map (df kv (cy k ((getM m k).getD z) c m)) a))):pA P (.mapEntry t x i) ty T H K w:=by
 intro n _
 obtain⟨b,a,h1,g,j⟩:=DU (k:=k) hm d hk hH f
 refine⟨.bm [(getM m k).getD z,cF b],.fj id (.map (df kv (cy k ((getM m k).getD z) c m)) a),[id],?_,h b a g j⟩
 simp only[sI,bZ,oper,e,hi]
 exact h1
theorem Tc {K:V->View->Prop} {w:cP (T,H,K)} {x s y:Operand} {id c b:Nat} {m:dk κ} {k:κ} {v:V} (i:ev T x=.mp id) (l:ev T s=cF b) (o:ev T y=v) (hH:H id=.map (df kv m) c) (p:jW m c) (a:jm m k=some b)
  (h:∀ q,K .any (H.set id (.map (df kv (cy k v q m)) c))):pA P (.entryStore t x s y) ty T H K w:=by
 intro n _
 have d:=mb (kv:=kv) k m
 cases g:fX k m with
 | none=>rw[g] at d;rw[d.2.1] at a;simp at a
 | some j =>
  rw[g] at d
  obtain⟨z,h1,C,D,f,r,u⟩:=d
  rw[a] at f
  have e:z.2.2=b:=by simp at f;exact f.symm
  have A:=find_born (kv:=kv) b m j z p.1 h1 e
  refine⟨.any,.fj id (.map (df kv (cy k v c m)) c),[id],?_,h c⟩
  have B:asNat (cF b)=some b:=by simp[asNat,cF]
  simp only[sI,bZ,oper,i,l,o,jG,B,hH,A,r]
  rw[(u v c).1]
theorem Ur {z:V} {id c:Nat} {m:dk κ} {k:κ} (hm:dS P t=some (kt,et)) (f:zeroV P et=some z) (hk:Hn P kt kv) (hH:H id=.map (df kv m) c) (i:jW m c):HE P t (.mp id) (kv k) H:=by
 refine⟨⟨_,_,hH⟩,λv obj rd he=>?_⟩
 obtain⟨b,l,h1,n,g⟩:=DU (k:=k) hm f hk hH i
 rw[he] at h1
 simp only[U7,Vb,bk.fj.injEq] at h1
 obtain⟨_,⟨_,rfl⟩,_⟩:=h1
 have key:∀ (a:dk κ) (c2:Nat) (H':View),H' id=.map (df kv a) c2->eN P t (.mp id) (kv k) false H'=some ((getM a k).getD z,.none,[id]):=by
  intro a c2 H' e
  have o:=hk.find k (df kv a).isEmpty a
  have d:=mb (kv:=kv) k a
  simp only[eN,hm,f,e,o]
  cases h:fX k a with
  | some j =>
   rw[h] at d
   obtain⟨y,h1,n,g,q,p,_⟩:=d
   simp[p,g]
  | none =>
   rw[h] at d
   simp[d.1]
 rw[key (cy k ((getM m k).getD z) c m) l _ (by simp[View.set]),key m c H hH,sr]
 simp
end
def eS (x:Item):List V:=[cF x.al,cF x.dot,cF x.c9]
def qH (x:Item):V:=.agg (eS x)
def kW (x:Item):Value:=.agg #[.int .i64 x.al,.int .i64 x.dot,.int .i64 x.c9]
theorem AA (x:Item):c7 (qH x)=some (kW x):=rfl
theorem Cq:∀ m:dk Item,gM (df qH m)=some (m.map λx=>{ key:=kW x.1,val:=.nilFunc,born:=x.2.2 })
 | []=>rfl
 | x :: r=>by
  have:=Cq r
  simp only[df] at this
  simp[df,gM,AA,this]
structure Sy (P:Program) (kt:TypeId):Prop where
 ty:∃ f0 f1 f2:Field,P.underlying kt=some (.struct #[f0,f1,f2])/\f0.name≠ "_" /\ f1.name≠ "_" /\ f2.name≠ "_" /\ P.underlying f0.type=some (.int .i64)/\P.underlying f1.type=some (.int .i64)/\P.underlying f2.type=some (.int .i64)/\f0.offset=0/\f1.offset=1/\f2.offset=2
 held:P.stoodInHeld kt=false
theorem xE {P:Program} {α:Type} (x:α):bq P (pure x:Sem α)=some x:=rfl
theorem Sc {P:Program} {kt:TypeId} (h:Sy P kt):Hn P kt qH where
 same:=λk=>by simp[sameKey,AA,kW,Instr.sameBits]
 find:=by
  obtain⟨f0,f1,f2,hu,t,n1,u,f,g,l,o0,n,o⟩:=h.ty
  have heq:∀ a b:Item,bq P (Op.equal kt (kW a) (kW b))=some (a == b):=by
   intro a b
   have w:fK P 9998 #[.int .i64 (a.al:Int),.int .i64 (a.dot:Int),.int .i64 (a.c9:Int)] #[.int .i64 (b.al:Int),.int .i64 (b.dot:Int),.int .i64 (b.c9:Int)] [f0,f1,f2] (((a.al:Int) == b.al) && (((a.dot:Int) == b.dot) && (((a.c9:Int) == b.c9) && true))) :=
    .int f0 _ _ .i64 _ _ t f (by rw[o0];rfl) (by rw[o0];rfl) (.int f1 _ _ .i64 _ _ n1 g (by rw[n];rfl) (by rw[n];rfl) (.int f2 _ _ .i64 _ _ u l (by rw[o];rfl) (by rw[o];rfl) .nil))
   rw[kW,kW,rG hu h.held w]
   congr 1
   rw[V1]
   simp only[Vd,V8,Int.natCast_inj,and_true]
   cases a;cases b;simp
  have c:∀ (k:Item) (m:dk Item) (i:Nat),bq P (Instr.findAsking kt (kW k) (m.map λx=>{ key:=kW x.1,val:=.nilFunc,born:=x.2.2 }) i)=some ((fX k m).map λj=>(i+j,.nilFunc)):=by
   intro k m
   induction m with
   | nil=>intro i;rfl
   | cons x r y =>
    intro i
    simp only[VF,Instr.findAsking,bh,heq,VI,fX]
    cases hk:k == x.1 with
    | true=>simp[xE]
    | false =>
     simp only[VE,if_false,y (i+1),Option.map_map]
     congr 2
     funext j
     simp only[Function.comp]
     congr 1
     omega
  have hint:∀ (e:Bool) (p:TypeId) (v:Value),P.underlying p=some (.int .i64)->bq P (Instr.checkKey e 9999 p v)=some ():=λe p v q=>B2 q trivial e 9998 v
  have d:∀ (k:Item) (e:Bool),bq P (Instr.checkKey e 10000 kt (kW k))=some ():=by
   intro k e
   unfold Instr.checkKey kW
   rw[bh,dG hu,VI]
   have z:=ia (P:=P) f (.inr ⟨_,rfl⟩) #[.int .i64 (k.al:Int),.int .i64 (k.dot:Int),.int .i64 (k.c9:Int)] f0.offset (v:=.int .i64 k.al) (by rw[o0];rfl)
   have A:=ia (P:=P) g (.inr ⟨_,rfl⟩) #[.int .i64 (k.al:Int),.int .i64 (k.dot:Int),.int .i64 (k.c9:Int)] f1.offset (v:=.int .i64 k.dot) (by rw[n];rfl)
   have B:=ia (P:=P) l (.inr ⟨_,rfl⟩) #[.int .i64 (k.al:Int),.int .i64 (k.dot:Int),.int .i64 (k.c9:Int)] f2.offset (v:=.int .i64 k.c9) (by rw[o];rfl)
   simp only[<-Array.forIn_toList,List.forIn_cons,List.forIn_nil,Va t,Va n1,Va u,bh,z,A,B,hint e _ _ f,hint e _ _ g,hint e _ _ l,VI,xE]
  intro k e m
  have s:bq P (underlying kt)=some _:=dG hu
  simp only[lW,AA,Cq,bh,d,VI]
  have:bq P (Instr.findKey kt (kW k) (m.map λx=>{ key:=kW x.1,val:=.nilFunc,born:=x.2.2 }))=some ((fX k m).map λj=>(0+j,.nilFunc)):=by
   unfold Instr.findKey
   rw[bh,s,VI]
   cases m with
   | nil=>rfl
   | cons x r=>exact c k (x :: r) 0
  rw[this]
  cases fX k m with
  | none=>rfl
  | some j=>simp
def M6 (m:dk Item) (s:List Item) (B:Nat):Prop:=∀ x,(x∈s->∃ k:Nat,getM m x=some (cF k)/\1<=k/\k<=B)/\(x ∉ s->getM m x=none)
structure lI (H:View) (c sid mid:Nat) (sv:Nat->V) (mi:Nat->Nat) (mm:Nat->dk Item) (cl:Nat->Nat) (g:ae) (p:List Int) (nu:V) (S S1:Nat->List Item) (B n:Nat) (K:List (Nat × bT)):Prop where
 box:H c=.arr 8 [[.aS (g.ai.map cO),encS g.ao,.aS (g.rules.map aW),gi g.start,encI p,nu,.sl sid 0 n 1,.sl mid 0 n 1]]
 fA:H sid=.arr 1 ((List.range n).map λj=>[sv j])
 seen:H mid=.arr 1 ((List.range n).map λj=>[.mp (mi j)])
 set:∀ j,j < n->aZ H (sv j) 3 ((S j).map eS)
 map:∀ j,j < n->H (mi j)=.map (df qH (mm j)) (cl j)/\jW (mm j) (cl j)/\M6 (mm j) (S1 j) B
 ne:sid≠mid
 yp:∀ i j o,i < n->j < n->owner (sv i)=some o->owner (sv j)=some o->i=j
 CK:∀ i j,i < n->j < n->mi i=mi j->i=j
 off:∀ q∈K,H q.1=q.2/\q.2≠.dead/\q.1≠sid/\(∀ j,j < n->q.1≠mi j)/\∀ j,j < n->owner (sv j)≠some q.1
def Ch (H:View) (c:Nat) (g:ae) (p:List Int) (nu:V) (S:Nat->List Item) (B n:Nat) (K:List (Nat × bT)):Prop:=∃ sid mid sv mi mm cl,lI H c sid mid sv mi mm cl g p nu S S B n K
def iS (S:Nat->List Item) (a:Nat) (x:Item):Nat->List Item:=λb=>if b=a then (if x∈S a then S a else S a ++ [x]) else S b
theorem Ch.more {H:View} {c:Nat} {g:ae} {p:List Int} {e:V} {S:Nat->List Item} {B f n:Nat} {K:List (Nat × bT)} (h:Ch H c g p e S B n K) (q:B<=f):Ch H c g p e S f n K:=by
 obtain⟨b,d,i,l,mm,cl,h⟩:=h
 refine⟨b,d,i,l,mm,cl,h.box,h.fA,h.seen,h.set,λj a=>⟨(h.map j a).1,(h.map j a).2.1,λx=>⟨λm=>?_,((h.map j a).2.2 x).2⟩⟩,h.ne,h.yp,h.CK,h.off⟩
 obtain⟨k,h1,o,r⟩:=((h.map j a).2.2 x).1 m
 exact⟨k,h1,o,by omega⟩
theorem Ch.drop {H:View} {c:Nat} {g:ae} {p:List Int} {d:V} {S:Nat->List Item} {B n:Nat} {q:Nat × bT} {K:List (Nat × bT)} (h:Ch H c g p d S B n (q :: K)):Ch H c g p d S B n K:=by
 obtain⟨a,b,e,f,mm,cl,h⟩:=h
 exact⟨a,b,e,f,mm,cl,h.box,h.fA,h.seen,h.set,h.map,h.ne,h.yp,h.CK,λq i=>h.off q (by simp[i])⟩
theorem lI.new {H:View} {c f i:Nat} {m:Nat->V} {r:Nat->Nat} {mm:Nat->dk Item} {cl:Nat->Nat} {g:ae} {p:List Int} {s:V} {S t:Nat->List Item} {B n:Nat} {K:List (Nat × bT)} (h:lI H c f i m r mm cl g p s S t B n K)
  {b:Nat} {o:bT} (k:H b=.dead) (v:o≠.dead):lI (H.set b o) c f i m r mm cl g p s S t B n ((b,o) :: K):=by
 have keep:∀ id,H id≠.dead->(H.set b o) id=H id:=λid d=>by
  have e:id≠b:=by rintro rfl;exact d k
  simp[View.set,e]
 have live:∀ {id},H id≠.dead->b≠id:=λd e=>d (e ▸ k)
 refine⟨?_,?_,?_,λj a=>?_,λj a=>?_,h.ne,h.yp,h.CK,λq l=>?_⟩
 .rw[keep _ (by rw[h.box];simp)];exact h.box
 .rw[keep _ (by rw[h.fA];simp)];exact h.fA
 .rw[keep _ (by rw[h.seen];simp)];exact h.seen
 .exact(h.set j a).fresh k
 .rw[keep _ (by rw[(h.map j a).1];simp)];exact h.map j a
 .rcases Vq.1 l with rfl | l
  .refine⟨by simp[View.set],v,live (by rw[h.fA];simp),λj a=>live (by rw[(h.map j a).1];simp),λj a=>?_⟩
   have:=(h.set j a).ne k
   exact this
  .obtain⟨h1,u,w⟩:=h.off q l
   exact⟨by rw[keep _ (by rw[h1];exact u)];exact h1,u,w⟩
theorem Ch.new {H:View} {c:Nat} {g:ae} {p:List Int} {e:V} {S:Nat->List Item} {B n b:Nat} {o:bT} {K:List (Nat × bT)} (h:Ch H c g p e S B n K) (f:H b=.dead) (i:o≠.dead):Ch (H.set b o) c g p e S B n ((b,o) :: K):=by
 obtain⟨a,d,j,k,mm,cl,h⟩:=h
 exact⟨a,d,j,k,mm,cl,h.new f i⟩
theorem Ch.kept {H:View} {c:Nat} {g:ae} {p:List Int} {a:V} {S:Nat->List Item} {B n:Nat} {K:List (Nat × bT)} (h:Ch H c g p a S B n K):∀ q∈K,H q.1=q.2:=by
 obtain⟨b,d,f,i,mm,cl,h⟩:=h
 exact λq e=>(h.off q e).1
def pU:SF:=⟨af [ab [cd 5 2],.y0 (188,12,13) [] [⟨none,[aa 6 0,ed 7 6,au 8 7 7,aj 9 8,aa 10 1,aM 11 1 9 10,aj 12 11,aU 13 3 5,((some 14),.op (.old (.lookup 188 (.tmp 12) (.tmp 13) false) 3)),aE 15 .add 14 1,((some 16),.op (.old (.mapEntry 188 (.tmp 12) (.tmp 13)) 0)),cZ 17 1 16,(none,.op (.old (.entryStore 188 (.tmp 12) (.tmp 17) (.tmp 15)) 0))]⟩],ab [aa 18 0,ed 19 18,au 20 7 19,aj 21 20,aa 22 1,aM 23 1 21 22,aj 24 23,aU 25 3 5,((some 26),.op (.old (.lookup 188 (.tmp 24) (.tmp 25) false) 3)),aE 27 .eql 26 1],bg 27 (.pf [(30,39)] [⟨none,[aa 28 0,ed 29 28,au 30 6 29,aj 31 30,aa 32 1,aa 33 0,ed 34 33,au 35 6 34,aj 36 35,aa 37 1,aM 38 1 36 37,aj 39 38,aU 40 3 5,((some 41),.op (.bG 1 3 [(.val (.int .i64 0)),(.val (.int .i64 0)),(.val (.int .i64 0))] [(0,(.tmp 40))])),fM 42 3 24 39 41,aM 43 1 31 32,cG 1 43 42]⟩])],
 [],44⟩
theorem vq:aQ Tryz.prog 176 [5,100000]=some pU:=by kernel_rfl
theorem O5:Sy Tryz.prog 191 :=
 ⟨⟨⟨ "rule",3,0,false,"","gerund/oracle",0⟩,⟨ "dot",3,1,false,"","gerund/oracle",8⟩,⟨ "from",3,2,false,"","gerund/oracle",16⟩,by kernel_rfl,by decide,by decide,by decide,Tryz.underlying3,Tryz.underlying3,Tryz.underlying3,rfl,rfl,rfl⟩,by kernel_rfl⟩
theorem RW {m:dk Item} {s:List Item} {B c f:Nat} {x:Item} (h:M6 m s B) (k:Nat) (hk:(x∈s/\getM m x=some (cF k))∨(x ∉ s/\k=0)) (j:k<=B) (z:V):M6 (cy x (cF (k+1:Nat)) f (cy x z c m)) (if x∈s then s else s ++ [x]) (B+1):=by
 intro y
 rw[sr,sr]
 by_cases e:y=x
 .subst e
  refine⟨λ_=>⟨k+1,by simp,by omega,by omega⟩,λd=>?_⟩
  exfalso
  by_cases a:y∈s
  .rw[Va a] at d;exact d a
  .rw[U8 a] at d;exact d (by simp)
 .have e':(y == x)=false:=by simpa using e
  simp only[e',VE,if_false]
  have b:(y∈if x∈s then s else s ++ [x])↔y∈s:=by
   split
   .exact Iff.rfl
   .simp[e]
  rw[b]
  refine⟨λa=>?_,(h y).2⟩
  obtain⟨g,h1,i,l⟩:=(h y).1 a
  exact⟨g,h1,i,by omega⟩
theorem lI.wrote {H:View} {c f i:Nat} {v:Nat->V} {d:Nat->Nat} {mm:Nat->dk Item} {cl:Nat->Nat} {g:ae} {p:List Int} {w:V} {S r:Nat->List Item} {B n:Nat} {K:List (Nat × bT)} (h:lI H c f i v d mm cl g p w S r B n K)
  {a:Nat} (s:a < n) {x:Item} {l:dk Item} {o:Nat} (D:jW l o) (E:M6 l (iS r a x a) (B+1)) :
  lI (H.set (d a) (.map (df qH l) o)) c f i v d (λj=>if j=a then l else mm j) (λj=>if j=a then o else cl j) g p w S (iS r a x) (B+1) n K:=by
 obtain⟨t,F,G⟩:=h.map a s
 have keep:∀ id z es,H id=.arr z es->(H.set (d a) (.map (df qH l) o)) id=H id:=λid z es b=>by
  have e:id≠d a:=by rintro rfl;rw[t] at b;simp at b
  simp[View.set,e]
 refine⟨?_,?_,?_,λj m=>?_,λj m=>?_,h.ne,h.yp,h.CK,λq I=>?_⟩
 .rw[keep _ _ _ h.box];exact h.box
 .rw[keep _ _ _ h.fA];exact h.fA
 .rw[keep _ _ _ h.seen];exact h.seen
 .exact(h.set j m).keep λid b=>keep _ _ _ ((h.set j m).live b).1
 .by_cases e:j=a
  .subst e
   simp only[if_true]
   exact⟨by simp[View.set],D,E⟩
  .have J:d j≠d a:=λq=>e (h.CK j a m s q)
   simp only[U8 e]
   obtain⟨g1,g2,g3⟩:=h.map j m
   refine⟨by simp[View.set,J,g1],g2,?_⟩
   simp only[iS,U8 e]
   intro y
   refine⟨λL=>?_,(g3 y).2⟩
   obtain⟨k,h1,u,A⟩:=(g3 y).1 L
   exact⟨k,h1,u,by omega⟩
 .obtain⟨h1,u,A,C,M⟩:=h.off q I
  exact⟨by simp[View.set,C a s,h1],u,A,C,M⟩
theorem lI.Sg {H H':View} {c d s:Nat} {m:Nat->V} {z:Nat->Nat} {mm:Nat->dk Item} {cl:Nat->Nat} {g:ae} {p:List Int} {D:V} {S E:Nat->List Item} {B n:Nat} {K:List (Nat × bT)} (h:lI H c d s m z mm cl g p D S E B n K)
  {a:Nat} (v:a < n) {x:Item} (F:¬ x∈S a) {u':V} (G:aZ H' u' 3 ((S a).map eS ++ [eS x])) (I:Left H H' (m a) u') :
  lI (H'.set d (.arr 1 (((List.range n).map λj=>[m j]).set a [u']))) c d s (λj=>if j=a then u' else m j) z mm cl g p D (iS S a x) E B n K:=by
 have own:∀ {id},owner (m a)=some id->H id=.arr 3 ((S a).map eS):=λr=>((h.set a v).live r).1
 have n1:owner (m a)≠some d:=λe=>by
  have:=own e
  rw[h.fA] at this;simp at this
 have keep:∀ id,H id≠.dead->owner (m a)≠some id->H' id=H id/\owner u'≠some id:=I
 have J:=keep d (by rw[h.fA];simp) n1
 have b:∀ id,H id≠.dead->owner (m a)≠some id->id≠d->(H'.set d (.arr 1 (((List.range n).map λj=>[m j]).set a [u']))) id=H id:=λid h1 f w=>by
  simp only[View.set,U8 w];exact(keep id h1 f).1
 have t:∀ {id o},H id=o->o≠.arr 3 ((S a).map eS)->owner (m a)≠some id:=λh1 f e=>f (by rw[<-h1];exact own e)
 refine⟨?_,?_,?_,λj l=>?_,λj l=>?_,h.ne,λi j o hi l h1 f=>?_,h.CK,λq L=>?_⟩
 .rw[b c (by rw[h.box];simp) (t h.box (by simp)) (by rintro rfl;have:=h.box;rw[h.fA] at this;simp at this)];exact h.box
 .simp only[View.set,if_true]
  congr 1
  rw[R4]
  apply List.map_congr_left
  intro j _
  split <;> rfl
 .rw[b s (by rw[h.seen];simp) (t h.seen (by simp)) h.ne.symm];exact h.seen
 .by_cases e:j=a
  .subst e
   simp only[if_true,iS,U8 F,Vz,VF,Wg]
   exact G.other J.2
  .simp only[U8 e,iS]
   refine(h.set j l).keep λid r=>?_
   have k:=((h.set j l).live r).1
   refine b id (by rw[k];simp) (λu=>e (h.yp j a id l v r u)) ?_
   rintro rfl;rw[h.fA] at k;simp at k
 .obtain⟨g1,g2,g3⟩:=h.map j l
  refine⟨?_,g2,g3⟩
  rw[b (z j) (by rw[g1];simp) (t g1 (by simp)) (by intro e;rw[e,h.fA] at g1;simp at g1)];exact g1
 .by_cases y:i=a
  .by_cases u:j=a
   .omega
   .simp only[Va y,U8 u] at h1 f
    exfalso
    have k:=((h.set j l).live f).1
    exact(keep o (by rw[k];simp) (λA=>u (h.yp j a o l v f A))).2 h1
  .by_cases u:j=a
   .simp only[U8 y,Va u] at h1 f
    exfalso
    have k:=((h.set i hi).live h1).1
    exact(keep o (by rw[k];simp) (λA=>y (h.yp i a o hi v h1 A))).2 f
   .simp only[U8 y,U8 u] at h1 f
    exact h.yp i j o hi l h1 f
 .obtain⟨h1,f,w,M,C⟩:=h.off q L
  refine⟨?_,f,w,M,λj l=>?_⟩
  .rw[b q.1 (by rw[h1];exact f) (C a v) w];exact h1
  .by_cases e:j=a
   .simp only[Va e];exact(keep q.1 (by rw[h1];exact f) (C a v)).2
   .simp only[U8 e];exact C j l
theorem Bx (c:Nat) (g:ae) (p:List Int) (Z:V) (S:Nat->List Item) (B n a:Nat) (x:Item) (K:List (Nat × bT)) (H:View) (hC:Ch H c g p Z S B n K) (j:a < n) (hn:n < 1000) (hB:B < 1000000000000) (hl:(S a).length < 1000000)
  (hx:x.al < 1000/\x.dot < 1000/\x.c9 < 1000):aw Tryz.prog 176 [.ptr c 0 0,cF a,.agg (eS x)] H λ_ H'=>Ch H' c g p Z (iS S a x) (B+1) n K:=by
 obtain⟨C,an,sv,A,mm,cl,h⟩:=hC
 obtain⟨r,D,t⟩:=h.map a j
 have s:dS Tryz.prog 188=some (191,3):=by kernel_rfl
 have L:zeroV Tryz.prog 3=some (gi 0):=by kernel_rfl
 have i:=Sc O5
 have N:∃ k:Nat,(getM (mm a) x).getD (gi 0)=cF k/\k<=B/\((x∈S a/\getM (mm a) x=some (cF k)/\1<=k)∨(¬ x∈S a/\k=0)):=by
  by_cases d:x∈S a
  .obtain⟨k,h1,l,f⟩:=(t x).1 d
   exact⟨k,by rw[h1];rfl,f,.inl ⟨d,h1,l⟩⟩
  .exact⟨0,by rw[(t x).2 d];rfl,by omega,.inr ⟨d,rfl⟩⟩
 obtain⟨k,E,O,u⟩:=N
 refine aw.of mixed vq ?_
 simp(disch:=omega)only[↓wr,seval,wq,pU,h.box,h.seen,iL j,eS]
 refine⟨j,by simp;omega,?_⟩
 refine QM (kv:=qH) (kt:=191) (et:=3) (z:=gi 0) s L i (id:=A a) (c:=cl a) (m:=mm a) (k:=x) (by simp(disch:=omega)only[↓wr,seval,wq]) (by simp(disch:=omega)only[↓wr,seval,wq];rfl) r ?_
 rw[E]
 simp(disch:=omega)only[↓wr,seval,wq]
 refine Tg (kv:=qH) (kt:=191) (et:=3) (z:=gi 0) s L i (id:=A a) (c:=cl a) (m:=mm a) (k:=x) (by simp(disch:=omega)only[↓wr,seval,wq]) (by simp(disch:=omega)only[↓wr,seval,wq];rfl) r D λb P Q w=>?_
 rw[E] at Q w ⊢
 simp(disch:=omega)only[↓wr,seval,wq]
 have ek:V.val (.int .i64 ((k:Int)+1))=cF (k+1:Nat):=by simp[cF]
 refine Tc (kv:=qH) (id:=A a) (c:=P) (b:=b) (m:=cy x (cF k) (cl a) (mm a)) (k:=x) (v:=cF (k+1:Nat)) (by simp(disch:=omega)only[↓wr,seval,wq]) (by simp(disch:=omega)only[↓wr,seval,wq]) (by simp(disch:=omega)only[↓wr,seval,wq];exact ek) (by simp[View.set,cF]) Q w λM=>?_
 simp(disch:=omega)only[↓wr,seval,wq]
 refine⟨Ur (kv:=qH) s L i r D,?_⟩
 rw[set_set]
 have F:M6 (cy x (cF (k+1:Nat)) M (cy x (cF k) (cl a) (mm a))) (iS S a x a) (B+1):=by
  simp only[iS,if_true]
  exact RW t k (u.elim (λh=>.inl ⟨h.1,h.2.1⟩) .inr) O _
 have l:=h.wrote j (Q.Sj w (cF (k+1:Nat)) M) F
 have q:getM (cy x (cF (k+1:Nat)) M (cy x (cF k) (cl a) (mm a))) x=some (cF (k+1:Nat)):=by rw[sr];simp
 simp only[cF] at l q ⊢
 generalize cy x (.val (.int .i64 ((k+1:Nat):Int))) M (cy x (.val (.int .i64 (k:Int))) (cl a) (mm a))=m2 at l q ⊢
 generalize View.set H (A a) (.map (df qH m2) P)=H2 at l ⊢
 have R:c≠A a:=λe=>by
  have:=h.box
  rw[e,r] at this;simp at this
 simp only[U8 R,h.box]
 simp(disch:=omega)only[↓wr,seval,wq,l.box,l.seen,iL j]
 refine⟨j,by simp;omega,?_⟩
 have G:=(l.map a j).1
 simp only[if_true] at G
 refine QM (kv:=qH) (kt:=191) (et:=3) (z:=gi 0) s L i (id:=A a) (c:=P) (m:=m2) (k:=x) (by simp(disch:=omega)only[↓wr,seval,wq]) (by simp(disch:=omega)only[↓wr,seval,wq];rfl) G ?_
 rw[q]
 simp(disch:=omega)only[↓wr,seval,wq,Vo]
 apply ah.eq<;>intro e
 .have d:¬ x∈S a:=by
   rcases u with f | f
   .omega
   .exact f.1
  simp(disch:=omega)only[↓wr,seval,wq,l.box,l.fA,iL j]
  refine⟨j,by simp;omega,λb1 T=>?_⟩
  rw[bt]
  have f:=l.new T (o:=.arr 3 [eS x]) (by simp)
  simp only[eS,cF] at f
  have U:=f.off _ (Wy ..)
  generalize View.set H2 b1 _=H3 at f U ⊢
  have W:=f.set a j
  have X:gG (.ptr c 0 6) (sv a):=by
   rcases W with ⟨_,k,e⟩ | ⟨m,e,hm⟩
   .rw[e];trivial
   .rw[e]
    show c≠m
    rintro rfl
    have:=f.box
    rw[hm] at this;simp at this
  simp(disch:=omega)only[↓wr,seval,wq]
  refine nd W (by simp) (by simp[V.cells,aJ]) (by simp[aD];omega) (by simp[aD];omega) λu' H' y I=>?_
  have Y:owner (sv a)≠some C:=λe=>by
   have:=(W.live e).1
   rw[f.fA] at this;simp at this
  have J:=(I C (by rw[f.fA];simp) Y).1
  rw[f.fA] at J
  simp(disch:=omega)only[↓wr,seval,wq,J,y.cells,y.iG,iL j]
  refine⟨j,by simp;omega,X,?_⟩
  have h4:=f.Sg j d (u':=u') y I
  exact Ch.drop ⟨_,_,_,_,_,_,h4⟩
 .have d:x∈S a:=by
   rcases u with f | f
   .exact f.1
   .omega
  simp(disch:=omega)only[↓wr,seval,wq]
  have hS:iS S a x=S:=by
   funext b
   simp only[iS,Va d]
   split
   .rename_i e;rw[e]
   .rfl
  rw[hS] at l ⊢
  exact⟨_,_,_,_,_,_,l⟩
inductive By (g:ae) (p:List Int):Int->Nat->Prop
 | start:By g p g.start 0
 | step (R:aN) (l1 l2:List Int) (n:Int) (f a:Nat):R∈g.rules->R.right=l1 ++ (-1 - n) :: l2->By g p R.left f->Sp g p l1 f a->By g p n a
def G4 (g:ae) (p:List Int) (x:Item):Prop:=∃ R,g.rules[x.al]?=some R/\By g p R.left x.c9
inductive zB (g:ae) (p:List Int):Int->Nat->Prop
 | full (R:aN) (l1 l2:List Int) (f:Nat):R∈g.rules->R.right=l1 ++ l2->Sp g p l1 f p.length->zB g p R.left f
 | deep (R:aN) (l1 l2:List Int) (s:Int) (f a:Nat):R∈g.rules->R.right=l1 ++ s :: l2->s < 0->Sp g p l1 f a->a < p.length->zB g p (-1 - s) a->zB g p R.left f
theorem By.len {g:ae} {p:List Int} {n:Int} {a:Nat} (h:By g p n a):a<=p.length:=by
 induction h with
 | start=>omega
 | step _ _ _ _ _ _ _ _ _ b c=>exact b.len c
theorem Rb {g:ae} (e:∀ r∈g.rules,0<=r.left) (m:0<=g.start) {p:List Int} {n:Int} {a:Nat} (h:By g p n a):0<=n->zB g p n a->zB g p g.start 0:=by
 induction h with
 | start=>exact λ_ h=>h
 | step R d i n f a b he j c k =>
  intro o hp
  refine k (e R b) ?_
  by_cases l:a < p.length
  .exact .deep R d i (-1 - n) f a b he (by omega) c l (by rw[show -1 - (-1 - n)=n by omega];exact hp)
  .have:a=p.length:=by have:=c.len j.len;omega
   subst this
   exact .full R d _ f b he c
theorem RT {l:List Int} {d:Nat} {s:Int} (h:l[d]?=some s):l=l.take d ++ s :: l.drop (d+1):=by
 have h1:=(Vf.1 h)
 obtain⟨a,he⟩:=h1
 rw[<-he]
 simp
theorem G4.ask {g:ae} {p:List Int} {a:Nat} {x:Item} (h:G4 g p x) (d:Sound g p a x) {R:aN} (c:g.rules[x.al]?=some R) {s:Int} (e:R.right[x.dot]?=some s):By g p (-1 - s) a:=by
 obtain⟨j,h1,f⟩:=h
 obtain⟨k,b,_,_,i⟩:=d
 rw[c] at h1 b;simp at h1 b;subst h1;subst b
 refine .step R (R.right.take x.dot) (R.right.drop (x.dot+1)) (-1 - s) x.c9 a (Vc c) ?_ f i
 rw[show -1 - (-1 - s)=s by omega]
 exact RT e
theorem Ct {g:ae} (hr:aO g=true) {p:List Int} {S:Nat->List Item} (v:sq g p S) {l:List Int} {a j:Nat} (h:Sp g p l a j) :
  ∀ (x:Item) (R:aN) (t:List Int),x∈S a->g.rules[x.al]?=some R->R.right.drop x.dot=l ++ t->x.dot<=R.right.length->a<=p.length->(⟨x.al,x.dot+l.length,x.c9⟩:Item)∈S j:=by
 induction h with
 | nil i =>
  intro x R t f d u hle _
  exact f
 | term s l i j w E _ G =>
  intro x R t f d u hle hp
  have m:R.right[x.dot]?=some s:=by
   have:=VT (·[0]?) u
   simpa using this
  have n:=(Vf.1 m).1
  have h1:=v.term i x R s f d m w E
  obtain⟨c,z,_⟩:=E
  have H:=(Vf.1 z).1
  have:=G ⟨x.al,x.dot+1,x.c9⟩ R t h1 d (by have:=VT List.tail u;simpa using this) n (by omega)
  simp only[Vm]
  rw[show x.dot+(l.length+1)=x.dot+1+l.length by omega]
  exact this
 | dD s l Q i k j w F A b I _ B =>
  intro x R t f d u hle hp
  have m:R.right[x.dot]?=some s:=by
   have:=VT (·[0]?) u
   simpa using this
  have n:=(Vf.1 m).1
  obtain⟨q,J,C⟩:=Wi F
  have o:g.rules[q]?=some Q:=by rw[U6 J,C]
  have D:=v.pred i x R s q Q f d m w o A hp
  have r:=Cf hr v b ⟨q,0,i⟩ Q D o (by simp) (by simp) hp
  have hk:=b.len hp
  have y:(⟨x.al,x.dot+1,x.c9⟩:Item)∈S k:=by
   rcases Nat.lt_or_eq_of_le b.le with e | e
   .exact v.comp k ⟨q,Q.right.length,i⟩ Q x R s r o rfl e f d m w A hk
   .subst e
    have:=ie hr F (zk hr b rfl)
    rw[A] at this
    exact v.null i x R s f d m w this hp
  have:=B ⟨x.al,x.dot+1,x.c9⟩ R t y d (by have:=VT List.tail u;simpa using this) n hk
  simp only[Vm]
  rw[show x.dot+(l.length+1)=x.dot+1+l.length by omega]
  exact this
theorem pre_some {g:ae} (hr:aO g=true) {p:List Int} {S:Nat->List Item} (d:sq g p S) {n:Int} {f:Nat} (h:zB g p n f) :
  f<=p.length->(∀ (i:Nat) (R:aN),g.rules[i]?=some R->R.left=n->(⟨i,0,f⟩:Item)∈S f)->∃ x,x∈S p.length:=by
 induction h with
 | full R o e f j he k =>
  intro l hi
  obtain⟨q,m,c⟩:=Wi j
  have b:g.rules[q]?=some R:=by rw[U6 m,c]
  exact⟨_,Ct hr d k ⟨q,0,f⟩ R e (hi q R b rfl) b (by simpa using he) (by simp) l⟩
 | deep R o e s f a j he r k y _ t =>
  intro l hi
  obtain⟨q,m,c⟩:=Wi j
  have b:g.rules[q]?=some R:=by rw[U6 m,c]
  have u:=Ct hr d k ⟨q,0,f⟩ R (s :: e) (hi q R b rfl) b (by simpa using he) (by simp) l
  refine t (by omega) λi Q v w=>?_
  refine d.pred a _ R s i Q u b ?_ r v w (by omega)
  simp[he]
theorem Lm {g:ae} (hr:aO g=true) {p:List Int} {S:Nat->List Item} (d:sq g p S) (k:∀ a x,x∈S a->Sound g p a x) (l:∀ a x,x∈S a->G4 g p x):(∃ x,x∈S p.length)↔zB g p g.start 0:=by
 have b:=aK hr
 constructor
 .rintro⟨x,e⟩
  obtain⟨R,h1,f,_,m⟩:=k _ x e
  obtain⟨o,c,n⟩:=l _ x e
  rw[h1] at c;simp at c;subst c
  have j:=Vc h1
  refine Rb (λr hr=>(b.left r hr).1) b.ic n (b.left R j).1 ?_
  exact .full R _ (R.right.drop x.dot) x.c9 j (by simp) m
 .intro h
  exact pre_some hr d h (by omega) λi R h1 f=>d.start i R h1 f
def Grow (a:Nat) (S S':Nat->List Item):Prop:=∀ b,S b <+: S' b/\(b < a->S' b=S b)
structure Good (g:ae) (p:List Int) (S:Nat->List Item):Prop where
 nodup:∀ a,(S a).Nodup
 sound:∀ a x,x∈S a->Sound g p a x
 top:∀ a x,x∈S a->G4 g p x
 out:∀ a,p.length < a->S a=[]
theorem Grow.refl (a:Nat) (S:Nat->List Item):Grow a S S:=λ_=>⟨List.prefix_refl _,λ_=>rfl⟩
theorem Grow.trans {a:Nat} {S d c:Nat->List Item} (h:Grow a S d) (e:Grow a d c):Grow a S c:=λb=>⟨(h b).1.trans (e b).1,λf=>((e b).2 f).trans ((h b).2 f)⟩
theorem Grow.low {a c:Nat} {S d:Nat->List Item} (h:Grow a S d) (e:c<=a):Grow c S d:=λb=>⟨(h b).1,λf=>(h b).2 (by omega)⟩
theorem Grow.mem {a b:Nat} {S c:Nat->List Item} (h:Grow a S c) {x:Item} (d:x∈S b):x∈c b:=(h b).1.subset d
theorem oW {a b:Nat} (S:Nat->List Item) (x:Item) (h:a<=b):Grow a S (iS S b x):=by
 intro d
 unfold iS
 constructor
 .split
  .rename_i e
   subst e
   split
   .exact List.prefix_refl _
   .exact List.prefix_append _ _
  .exact List.prefix_refl _
 .intro c
  rw[U8 (by omega)]
theorem zd (S:Nat->List Item) (a:Nat) (x:Item):x∈iS S a x a:=by
 unfold iS
 rw[Va rfl]
 split
 .assumption
 .simp
theorem Good.put {g:ae} {p:List Int} {S:Nat->List Item} (h:Good g p S) {a:Nat} {x:Item} (f:Sound g p a x) (i:G4 g p x) (l:a<=p.length):Good g p (iS S a x):=by
 refine⟨λb=>?_,λb y c=>?_,λb y c=>?_,λb j=>?_⟩
 .unfold iS
  split
  .rename_i e
   subst e
   split
   .exact h.nodup _
   .rename_i k
    rw[List.nodup_append]
    refine⟨h.nodup _,by simp,λu hu v d=>?_⟩
    simp at d
    rintro rfl
    exact k (d ▸ hu)
  .exact h.nodup _
 .unfold iS at c
  split at c
  .rename_i e
   subst e
   split at c
   .exact h.sound _ _ c
   .rcases VK.1 c with c | c
    .exact h.sound _ _ c
    .simp at c;subst c;exact f
  .exact h.sound _ _ c
 .unfold iS at c
  split at c
  .rename_i e
   subst e
   split at c
   .exact h.top _ _ c
   .rcases VK.1 c with c | c
    .exact h.top _ _ c
    .simp at c;subst c;exact i
  .exact h.top _ _ c
 .unfold iS
  rw[U8 (by omega)]
  exact h.out b j
theorem tz:∀ (N:Nat) (l:List Nat),l.Nodup->(∀ x∈l,x < N)->l.length<=N
 | 0,l,_,h=>by
  cases l with
  | nil=>simp
  | cons x l=>exact absurd (h x (by simp)) (by omega)
 | N+1,l,b,h=>by
  by_cases e:N∈l
  .have h1:=tz N (l.erase N) (b.erase N) λx a=>by
    have c:=(b.mem_erase_iff).1 a
    have:=h x c.2
    have:=c.1
    omega
   rw[List.length_erase_of_mem e] at h1
   omega
  .have:=tz N l b λx a=>by
    have:=h x a
    have:x≠N:=by rintro rfl;exact e a
    omega
   omega
theorem DQ {α:Type} {f:α->Nat} : ∀ {l:List α},l.Nodup->(∀ x∈l,∀ y∈l,f x=f y->x=y)->(l.map f).Nodup
 | [],_,_=>by simp
 | x :: l,c,h=>by
  rw[V9] at c
  rw[VF,V9]
  refine⟨λhm=>?_,DQ c.2 λa g b i=>h a (by simp[g]) b (by simp[i])⟩
  obtain⟨y,d,e⟩:=Vv.1 hm
  have:=h y (by simp[d]) x (by simp) e
  exact c.1 (this ▸ d)
theorem Sound.small {g:ae} (b:g.de) {p:List Int} {a:Nat} {x:Item} (h:Sound g p a x):x.al < 40/\x.dot < 7/\x.c9<=a:=by
 obtain⟨R,c,e,d,_⟩:=h
 have h1:=(Vf.1 c).1
 have f:=b.rules
 have i:=b.right R (Vc c)
 omega
theorem Good.len {g:ae} (d:g.de) {p:List Int} (hp:p.length<=60) {S:Nat->List Item} (h:Good g p S) (a:Nat):(S a).length<=17080:=by
 by_cases f:p.length < a
 .rw[h.out a f];simp
 .have c:∀ x∈S a,x.al < 40/\x.dot < 7/\x.c9 < 61:=λx b=>by
   have:=(h.sound a x b).small d
   omega
  have:=tz 17080 ((S a).map λx=>x.al * 427+x.dot * 61+x.c9) (DQ (h.nodup a) λx b y i e=>by
   have h1:=c x b
   have j:=c y i
   cases x;cases y
   simp only at e h1 j
   simp only[Item.mk.injEq]
   omega) (λv k=>by
   obtain⟨x,b,rfl⟩:=Vv.1 k
   have:=c x b
   omega)
  simpa using this
theorem Ch.box {H:View} {c:Nat} {g:ae} {p:List Int} {d:V} {S:Nat->List Item} {B n:Nat} {K:List (Nat × bT)} (h:Ch H c g p d S B n K) :
  ∃ a b,H c=.arr 8 [[.aS (g.ai.map cO),encS g.ao,.aS (g.rules.map aW),gi g.start,encI p,d,.sl a 0 n 1,.sl b 0 n 1]]:=by
 obtain⟨a,b,e,f,mm,cl,h⟩:=h
 exact⟨a,b,h.box⟩
theorem Ch.set {H:View} {c:Nat} {g:ae} {p:List Int} {f:V} {S:Nat->List Item} {B n:Nat} {K:List (Nat × bT)} (h:Ch H c g p f S B n K) {a:Nat} (i:a < n) :
  ∃ (b d:Nat) (e:Nat->V),H c=.arr 8 [[.aS (g.ai.map cO),encS g.ao,.aS (g.rules.map aW),gi g.start,encI p,f,.sl b 0 n 1,.sl d 0 n 1]]/\H b=.arr 1 ((List.range n).map λj=>[e j])/\aZ H (e a) 3 ((S a).map eS):=by
 obtain⟨b,d,e,k,mm,cl,h⟩:=h
 exact⟨b,d,e,h.box,h.fA,h.set a i⟩
def kf:SC :=
 af [ab [aV 15 .lss 14 13],bW 15 (.exit 0),.block 1 (af [ab [aa 16 14,aM 17 3 12 14,aU 18 3 17,((some 7),.op (.alloc [(.val (.int .i64 0)),(.emp 1),(.val (.int .i64 0))])),aa 6 16,cG 3 7 18],ab [au 19 0 7,aj 20 19,aa 21 2,aV 22 .eql 20 21],bg 22 (ab [aa 23 0,aa 24 1,aa 25 6,aa 26 1,((some 27),.op (.build [(.val (.int .i64 0)),(.val (.int .i64 0)),(.val (.int .i64 0))] [(0,1,(.tmp 25)),(1,1,(.val (.val (.int .i64 0)))),(2,1,(.tmp 26))])),ba 28 176 [23,24,27]])]),ab [aE 29 .add 14 1,aa 14 29]]
def lJ:SF:=⟨af [ab [aa 8 0,ed 9 8,au 10 0 9,au 11 2 10,aj 12 11,aP 13 12,aT 14 0],bX 0 kf],
 [],30⟩
theorem q4:aQ Tryz.prog 110 []=some lJ:=by kernel_rfl
def jV:SC :=
 af [af [ab [aa 11 8,aa 12 0,ed 13 12,au 14 6 13,aj 15 14,aa 16 3,aM 17 1 15 16,aj 18 17,aP 19 18,aV 20 .lss 11 19],bW 20 (.exit 0)],.block 1 (af [ab [aa 23 0,ed 24 23,au 25 6 24,aj 26 25,aa 27 3,aM 28 1 26 27,aj 29 28,aa 30 8,aM 31 3 29 30,aU 32 3 31,((some 9),.op (.alloc [(.val (.int .i64 0)),(.val (.int .i64 0)),(.val (.int .i64 0))])),cG 3 9 32],ab [aa 33 0,ed 34 33,au 35 0 34,au 36 2 35,aj 37 36,au 38 0 9,aj 39 38,aM 40 3 37 39,au 41 1 40,aj 42 41,aa 10 42],.region false [⟨none,[au 43 1 9,aj 44 43,aa 45 10,aP 46 45,aV 47 .lss 44 46,aa 48 47]⟩,⟨(some (48,true)),[aa 49 10,au 50 1 9,aj 51 50,aM 52 1 49 51,aj 53 52,aa 54 2,((some 55),.op (.arith .sub (.val (.val (.int .i64 (-1)))) (.tmp 54))),aV 56 .eql 53 55]⟩,⟨none,[c8 57 48 56]⟩],bg 57 (ab [aa 58 0,aa 59 1,au 60 0 9,aj 61 60,au 62 1 9,aj 63 62,aE 64 .add 63 1,au 65 2 9,aj 66 65,((some 67),.op (.build [(.val (.int .i64 0)),(.val (.int .i64 0)),(.val (.int .i64 0))] [(0,1,(.tmp 61)),(1,1,(.tmp 64)),(2,1,(.tmp 66))])),ba 68 176 [58,59,67]])]),ab [aa 21 8,aE 22 .add 21 1,aa 8 22]]
def k9:SF:=⟨af [ab [aT 8 0],bX 0 jV],
 [],69⟩
theorem qK:aQ Tryz.prog 177 []=some k9:=by kernel_rfl
def oV:SF:=⟨af [ab [cd 5 2],ab [aa 9 0,ed 10 9,au 11 0 10,au 12 2 11,aj 13 12,au 14 0 5,aj 15 14,aM 16 3 13 15,aU 17 3 16,((some 6),.op (.alloc [(.val (.int .i64 0)),(.emp 1),(.val (.int .i64 0))])),cG 3 6 17],af [ab [au 18 1 5,aj 19 18,au 20 1 6,aj 21 20,aP 22 21,aV 23 .eql 19 22],bg 23 (af [ab [aa 24 0,aa 25 1,au 26 0 6,aj 27 26,au 28 2 5,aj 29 28,ba 30 177 [24,25,27,29]],.ret])],ab [au 31 0 5,aj 32 31,au 33 1 5,aj 34 33,aE 35 .add 34 1,au 36 2 5,aj 37 36,((some 38),.op (.build [(.val (.int .i64 0)),(.val (.int .i64 0)),(.val (.int .i64 0))] [(0,1,(.tmp 32)),(1,1,(.tmp 35)),(2,1,(.tmp 37))])),((some 7),.op (.alloc [(.val (.int .i64 0)),(.val (.int .i64 0)),(.val (.int .i64 0))])),cG 3 7 38],ab [au 39 1 6,aj 40 39,au 41 1 5,aj 42 41,aM 43 1 40 42,aj 44 43,aa 8 44],.block 0 (af [ab [aa 46 8,aE 47 .geq 46 0,aa 45 47],.cond (.tmp 45) (af [af [.region false [⟨none,[aa 48 1,aa 49 0,ed 50 49,au 51 4 50,aj 52 51,aP 53 52,aV 54 .lss 48 53,aa 55 54]⟩,⟨(some (55,true)),[aa 56 0,ed 57 56,au 58 4 57,aj 59 58,aa 60 1,aM 61 1 59 60,aj 62 61,aa 63 8,aV 64 .eql 62 63,aa 65 64]⟩,⟨(some (65,false)),[aa 66 0,ed 67 66,au 68 4 67,aj 69 68,aa 70 1,aM 71 1 69 70,aj 72 71,aE 73 .eql 72 (-1)]⟩,⟨(some (55,true)),[bP 74 65 73]⟩,⟨none,[c8 75 55 74]⟩],bg 75 (ab [aa 76 0,aa 77 1,aE 78 .add 77 1,aU 79 3 7,ba 80 176 [76,78,79]])],.ret]) (af [ab [aa 82 0,ed 83 82,au 84 5 83,aj 85 84,aa 86 8,((some 87),.op (.arith .sub (.val (.val (.int .i64 (-1)))) (.tmp 86))),aM 88 1 85 87,aj 89 88,aa 81 89],bg 81 (ab [aa 90 0,aa 91 1,aU 92 3 7,ba 93 176 [90,91,92]])])]),ab [aa 94 0,aa 95 1,aa 96 8,((some 97),.op (.arith .sub (.val (.val (.int .i64 (-1)))) (.tmp 96))),ba 98 110 [94,95,97]]],
 [],99⟩
theorem tK:aQ Tryz.prog 111 [5]=some oV:=by kernel_rfl
theorem vL (c:Nat) (g:ae) (E:g.de) (p:List Int) (hp:p.length<=60) (z:V) (S:Nat->List Item) (B a:Nat) (K:List (Nat × bT)) (H:View) (t:Ch H c g p z S B (p.length+1) K) (m:Good g p S) (J:a<=p.length) (U:B+40 < 1000000000000)
  (dD:Int) (L:By g p dD a):aw Tryz.prog 110 [.ptr c 0 0,cF a,gi dD] H λ_ H'=>∃ h,Ch H' c g p z h (B+40) (p.length+1) K/\Good g p h/\Grow a S h/\∀ i R,g.rules[i]?=some R->R.left=dD->(⟨i,0,a⟩:Item)∈h a:=by
 have F:=E.rules
 refine aw.of mixed q4 ?_
 obtain⟨M,N,l⟩:=t.box
 simp(disch:=omega)only[↓wr,seval,wq,lJ,l]
 refine bc.up g.rules.length (λi n H'=>(∃ h,Ch H' c g p z h (B+i) (p.length+1) K/\Good g p h/\Grow a S h/\∀ j R,j < i->g.rules[j]?=some R->R.left=dD->(⟨j,0,a⟩:Item)∈h a)/\n 0=.ptr c 0 0/\n 1=cF a/\n 2=gi dD/\n 12=.aS (g.rules.map aW)/\n 13=cF g.rules.length/\n 14=cF i) ?_ ?_
 .exact⟨⟨S,t,m,.refl _ _,λj R G=>by omega⟩,rfl,rfl,rfl,rfl,rfl,rfl⟩
 clear l t m
 rintro i k n H' hk ⟨⟨w,t,m,q,d⟩,t0,t1,t2,t12,t13,t14⟩
 simp(disch:=omega)only[↓wr,seval,wq,kf,t0,t1,t2,t12,t13,t14]
 apply ah.dec<;>intro O
 .have f:g.rules[i]?=some (g.rules[i]'(by omega)):=U6 (by omega)
  have y:g.rules[i]'(by omega)∈g.rules:=Vg _
  generalize g.rules[i]'(by omega)=R at f y
  simp(disch:=omega)only[↓wr,seval,wq,t0,t1,t2,t12,t13,t14,aW,encI,U9,f]
  intro b P
  rw[set_set]
  have s:=t.new P (o:=.arr 3 [[gi R.left,.aS (R.right.map λx=>[gi x]),gi R.prec]]) (by simp)
  generalize View.set H' b _=W at s ⊢
  have T:=m.len E hp a
  apply ah.eq<;>intro e
  .simp(disch:=omega)only[↓wr,seval,wq,t0,t1]
   refine av.eD ((Bx c g p z w (B+i) (p.length+1) a ⟨i,0,a⟩ _ _ s (by omega) (by omega) (by omega) (by omega) ⟨by simp;omega,by simp,by simp;omega⟩).mono ?_)
   intro r X A
   simp(disch:=omega)only[↓wr,seval,wq,t14]
   have C:Sound g p a ⟨i,0,a⟩:=⟨R,f,by simp,by simp,by simp;exact .nil _⟩
   refine aI hk (by omega) ⟨⟨_,A.drop,m.put C ⟨R,f,e ▸ L⟩ J,q.trans (oW w _ (Vh _)),λj Q G u v=>?_⟩,t0,t1,t2,t12,t13,rfl⟩
   by_cases D:j=i
   .subst D;exact zd _ _ _
   .exact(oW w _ (Vh a)).mem (d j Q (by omega) u v)
  .simp(disch:=omega)only[↓wr,seval,wq,t14]
   refine aI hk (by omega) ⟨⟨w,s.drop.more (by omega),m,q,λj Q G u v=>?_⟩,t0,t1,t2,t12,t13,rfl⟩
   by_cases D:j=i
   .subst D
    rw[f] at u;simp at u;subst u
    exact absurd v e
   .exact d j Q (by omega) u v
 .simp(disch:=omega)only[↓wr,seval,wq]
  exact⟨w,t.more (by omega),m,q,λi R I v=>d i R (by have:=(Vf.1 I).1;omega) I v⟩
def KS (g:ae) (dD:Int) (S:Nat->List Item) (at_:Nat) (x:Item):Prop:=∀ R,g.rules[x.al]?=some R->R.right[x.dot]?=some (-1 - dD)->(⟨x.al,x.dot+1,x.c9⟩:Item)∈S at_
theorem Sound.on {g:ae} {p:List Int} {f a:Nat} {x:Item} (h:Sound g p f x) {R:aN} (e:g.rules[x.al]?=some R) {s:Int} (i:R.right[x.dot]?=some s) (c:Sp g p [s] f a):Sound g p a ⟨x.al,x.dot+1,x.c9⟩:=by
 obtain⟨l,b,h1,j,k⟩:=h
 rw[e] at b;simp at b;subst b
 have d:=(Vf.1 i).1
 refine⟨R,e,d,VU j c.le,?_⟩
 have:R.right.take (x.dot+1)=R.right.take x.dot ++ [s]:=by rw[Vs,i];rfl
 rw[this]
 exact k.app c
theorem Ij (c:Nat) (g:ae) (C:g.de) (p:List Int) (hp:p.length<=60) (nu:V) (S:Nat->List Item) (B d fr:Nat) (K:List (Nat × bT)) (H:View) (J:Ch H c g p nu S B (p.length+1) K) (j:Good g p S) (ha:d<=p.length) (bn:fr<=d) (hB:B+17080 < 1000000000000)
  (dD:Int) (hn:0<=dD/\dD < 1000) (aq:Sp g p [-1 - dD] fr d):aw Tryz.prog 177 [.ptr c 0 0,cF d,gi dD,cF fr] H λ_ H'=>∃ l,Ch H' c g p nu l (B+17080) (p.length+1) K/\Good g p l/\Grow d S l/\∀ x∈l fr,KS g dD l d x:=by
 have bd:=C.rules
 refine aw.of mixed qK ?_
 simp(disch:=omega)only[↓wr,seval,wq,k9]
 refine bc.up 17080 (λi L H'=>(∃ l,Ch H' c g p nu l (B+i) (p.length+1) K/\Good g p l/\Grow d S l/\i<=(l fr).length/\∀ x∈(l fr).take i,KS g dD l d x)/\L 0=.ptr c 0 0/\L 1=cF d/\L 2=gi dD/\L 3=cF fr/\L 8=cF i) ?_ ?_
 .exact⟨⟨S,J,j,.refl _ _,We _,λx hx=>by simp at hx⟩,rfl,rfl,rfl,rfl,rfl⟩
 clear J j
 rintro i k L H' hk ⟨⟨f,J,j,w,br,n⟩,t0,t1,t2,t3,t8⟩
 obtain⟨bs,bx,sv,q,u,ho⟩:=J.set (a:=fr) (by omega)
 have D:fr < p.length+1:=by omega
 simp(disch:=omega)only[↓wr,seval,wq,jV,t0,t1,t2,t3,t8,q,u,iL D,ho.len]
 refine⟨by omega,by simp;omega,?_⟩
 apply ah.dec<;>intro hc
 .obtain⟨m,ar,hm⟩:=ho.sl (by simp;omega)
  have E:(f fr)[i]?=some ((f fr)[i]'(by omega)):=U6 (by omega)
  have F:(f fr)[i]'(by omega)∈f fr:=Vg _
  have O:(f fr).take (i+1)=(f fr).take i ++ [(f fr)[i]'(by omega)]:=by rw[Vs,E];rfl
  generalize (f fr)[i]'(by omega)=x at E F O
  have a1:((f fr).map eS).getD i []=[cF x.al,cF x.dot,cF x.c9]:=by simp[U5,E,eS]
  have G:=j.sound _ _ F
  have b0:=G.small C
  have P:=G
  obtain⟨R,Q,b1,b2,bl⟩:=G
  simp(disch:=omega)only[↓wr,seval,wq,t0,t1,t2,t3,t8,q,u,iL D,ar,hm,a1]
  refine⟨D,by simp;omega,by omega,by omega,λb hb=>?_⟩
  have a6:c≠b:=by rintro rfl;rw[q] at hb;simp at hb
  simp only[U8 a6]
  rw[set_set]
  have v:=J.new hb (o:=.arr 3 [[.val (.int .i64 x.al),.val (.int .i64 x.dot),.val (.int .i64 x.c9)]]) (by simp)
  generalize View.set H' b _=H2 at v ⊢
  have z:=v.kept _ (Wy ..)
  simp only at z
  have T:=Vc Q
  have b3:=C.right R T
  simp(disch:=omega)only[↓wr,seval,wq,t0,t1,t2,t3,t8,z,aW,encI,U9,Q]
  have h:∀ M,Grow d f M->(∀ I,g.rules[x.al]?=some I->I.right[x.dot]?=some (-1 - dD)->(⟨x.al,x.dot+1,x.c9⟩:Item)∈M d)->i+1<=(M fr).length/\∀ y∈(M fr).take (i+1),KS g dD M d y:=by
   intro M U a7
   obtain⟨t,ht⟩:=(U fr).1
   refine⟨by rw[<-ht];simp;omega,?_⟩
   rw[<-ht,WI (by omega),O]
   intro y N
   rcases VK.1 N with N | N
   .exact λI h1 A=>U.mem (n y N I h1 A)
   .simp at N;subst N;exact a7
  have b4:=j.len C hp fr
  have b5:=j.len C hp d
  apply ah.dec<;>intro h1
  .have hs:R.right[x.dot]?=some (R.right[x.dot]'(by omega)):=U6 (by omega)
   generalize R.right[x.dot]'(by omega)=s at hs
   simp(disch:=omega)only[↓wr,seval,wq,t0,t1,t2,t3,t8,z,hs,U9]
   apply ah.eq<;>intro e
   .simp(disch:=omega)only[↓wr,seval,wq,t0,t1,t2,t3,t8,z]
    have W:Sound g p d ⟨x.al,x.dot+1,x.c9⟩:=P.on Q hs (e ▸ aq)
    have X:=W.small C
    simp only at X
    refine av.eD ((Bx c g p nu f (B+i) (p.length+1) d ⟨x.al,x.dot+1,x.c9⟩ _ _ v (by omega) (by omega) (by omega) (by omega) ⟨by simp;omega,by simp;omega,by simp;omega⟩).mono ?_)
    intro r H3 a8
    simp(disch:=omega)only[↓wr,seval,wq,t8]
    obtain⟨Y,k2⟩:=h _ (oW f _ (Vh _)) (λI _ _=>zd _ _ _)
    exact aI hk (by omega) ⟨⟨_,a8.drop,j.put W (j.top _ x F) ha,w.trans (oW f _ (Vh _)),Y,k2⟩,t0,t1,t2,t3,rfl⟩
   .simp(disch:=omega)only[↓wr,seval,wq,t8]
    obtain⟨Y,k2⟩:=h _ (.refl _ _) (λI A Z=>by
     rw[Q] at A;simp at A;subst A
     rw[hs] at Z;simp at Z
     exact absurd Z e)
    exact aI hk (by omega) ⟨⟨_,v.drop.more (by omega),j,w,Y,k2⟩,t0,t1,t2,t3,rfl⟩
  .simp(disch:=omega)only[↓wr,seval,wq,t8]
   obtain⟨Y,k2⟩:=h _ (.refl _ _) (λI A Z=>by
    rw[Q] at A;simp at A;subst A
    have:=(Vf.1 Z).1
    omega)
   exact aI hk (by omega) ⟨⟨_,v.drop.more (by omega),j,w,Y,k2⟩,t0,t1,t2,t3,rfl⟩
 .simp(disch:=omega)only[↓wr,seval,wq]
  have an:i=(f fr).length:=by omega
  rw[an,WJ] at n
  exact⟨f,J.more (by have:=j.len C hp fr;omega),j,w,n⟩
structure wi (g:ae) (p:List Int) (S:Nat->List Item) (a:Nat) (x:Item):Prop where
 term:∀ R s,g.rules[x.al]?=some R->R.right[x.dot]?=some s->0<=s->jx p a s->(⟨x.al,x.dot+1,x.c9⟩:Item)∈S (a+1)
 pred:∀ R s i R',g.rules[x.al]?=some R->R.right[x.dot]?=some s->s < 0->g.rules[i]?=some R'->R'.left = -1 - s->(⟨i,0,a⟩:Item)∈S a
 null:∀ R s,g.rules[x.al]?=some R->R.right[x.dot]?=some s->s < 0->(ak g false).getD (-1 - s).toNat false=true->(⟨x.al,x.dot+1,x.c9⟩:Item)∈S a
 comp:∀ R,g.rules[x.al]?=some R->x.dot=R.right.length->x.c9 < a->∀ y∈S x.c9,KS g R.left S a y
theorem wi.grow {g:ae} {p:List Int} {S k:Nat->List Item} {a:Nat} {x:Item} (h:wi g p S a x) (e:Grow a S k):wi g p k a x where
 term:=λR s h1 c b d=>e.mem (h.term R s h1 c b d)
 pred:=λR s i f h1 c b d j=>e.mem (h.pred R s i f h1 c b d j)
 null:=λR s h1 c b d=>e.mem (h.null R s h1 c b d)
 comp:=λR h1 c b y l f d j=>e.mem (h.comp R h1 c b y (by rw[(e x.c9).2 b] at l;exact l) f d j)
theorem RC (c:Nat) (g:ae) (hr:aO g=true) (p:List Int) (hp:p.length<=60) (S:Nat->List Item) (B a:Nat) (x:Item) (K:List (Nat × bT)) (H:View) (hC:Ch H c g p (bK (ak g false)) S B (p.length+1) K) (u:Good g p S) (ha:a<=p.length) (hB:B+17200 < 1000000000000)
  (Y:x∈S a):aw Tryz.prog 111 [.ptr c 0 0,cF a,.agg (eS x)] H λ_ H'=>∃ D,Ch H' c g p (bK (ak g false)) D (B+17200) (p.length+1) K/\Good g p D/\Grow a S D/\wi g p D a x:=by
 have w:=aK hr
 have L:=u.sound _ _ Y
 have b1:=L.small w
 have m:=L
 obtain⟨R,n,b2,a1,G⟩:=L
 have q:=Vc n
 have b4:=w.right R q
 have b5:=w.left R q
 have b7:=w.ao
 obtain⟨b8,b9,Z⟩:=hC.box
 refine aw.of mixed tK ?_
 simp(disch:=omega)only[↓wr,seval,wq,oV,eS,Z,aW,encI,U9,n]
 refine λb hb=>?_
 rw[set_set]
 have E:=hC.new hb (o:=.arr 3 [[gi R.left,.aS (R.right.map λx=>[gi x]),gi R.prec]]) (by simp)
 generalize View.set H b _=H2 at E ⊢
 have y:=E.kept _ (Wy ..)
 simp only at y
 apply ah.eq<;>intro e
 .have e2:x.dot=R.right.length:=by omega
  have a6:Sp g p [-1 - R.left] x.c9 a:=by
   rw[e2,WJ] at G
   exact .dD _ _ R x.c9 a a (by omega) q (by omega) G (.nil _)
  simp(disch:=omega)only[↓wr,seval,wq,y]
  refine av.eD ((Ij c g w p hp _ S B a x.c9 _ _ E u ha a1 (by omega) R.left (by omega) a6).mono ?_)
  rintro r H3 ⟨M,d,a7,a8,hw⟩
  simp(disch:=omega)only[↓wr,seval,wq]
  refine⟨M,d.drop.more (by omega),a7,a8,⟨λz s h1 j I A=>?_,λz s i Q h1 j=>?_,λz s h1 j=>?_,λz h1 j I=>?_⟩⟩
  .rw[n] at h1;simp at h1;subst h1
   have:=(Vf.1 j).1
   omega
  .rw[n] at h1;simp at h1;subst h1
   have:=(Vf.1 j).1
   omega
  .rw[n] at h1;simp at h1;subst h1
   have:=(Vf.1 j).1
   omega
  .rw[n] at h1;simp at h1;subst h1
   exact hw
 .have ca:x.dot < R.right.length:=by omega
  have C:R.right[x.dot]?=some (R.right[x.dot]'(by omega)):=U6 (by omega)
  generalize R.right[x.dot]'(by omega)=s at C
  simp(disch:=omega)only[↓wr,seval,wq,y]
  refine λb3 N=>?_
  rw[set_set]
  have d:=E.new N (o:=.arr 3 [[.val (.int .i64 x.al),.val (.int .i64 (x.dot+1)),.val (.int .i64 x.c9)]]) (by simp)
  have bd:b≠b3:=by rintro rfl;rw[y] at N;simp at N
  simp only[U8 bd]
  generalize View.set H2 b3 _=H3 at d ⊢
  have F:=d.kept _ (Wy ..)
  simp only at F
  obtain⟨bs,bx,k⟩:=d.box
  have bl:=d.kept (b,_) (Vt _ (Wy ..))
  simp only at bl
  have an:=λhn:s < 0=>w.neg q (Vc C) hn
  have cc:=u.len w hp a
  simp(disch:=omega)only[↓wr,seval,wq,y,C,U9]
  have f:∀ M:Nat->List Item,(0<=s->jx p a s->(⟨x.al,x.dot+1,x.c9⟩:Item)∈M (a+1))->(s < 0->∀ i z,g.rules[i]?=some z->z.left = -1 - s->(⟨i,0,a⟩:Item)∈M a) ->
    (s < 0->(ak g false).getD (-1 - s).toNat false=true->(⟨x.al,x.dot+1,x.c9⟩:Item)∈M a)->wi g p M a x:=by
   intro M k1 k2 k3
   refine⟨λz s' h1 j I A=>?_,λz s' i Q h1 j I A O=>?_,λz s' h1 j I A=>?_,λz h1 j I=>?_⟩
   .rw[n] at h1;simp at h1;subst h1
    rw[C] at j;simp at j;subst j
    exact k1 I A
   .rw[n] at h1;simp at h1;subst h1
    rw[C] at j;simp at j;subst j
    exact k2 I i Q A O
   .rw[n] at h1;simp at h1;subst h1
    rw[C] at j;simp at j;subst j
    exact k3 I A
   .rw[n] at h1;simp at h1;subst h1
    omega
  have b0:=u.len w hp (a+1)
  apply ah.dec<;>intro h0
  .have J:jx p a s->a < p.length->aw Tryz.prog 176 [.ptr c 0 0,cF (a+1),.agg (eS ⟨x.al,x.dot+1,x.c9⟩)] H3 λ_ H'=>∃ D,Ch H' c g p (bK (ak g false)) D (B+17200) (p.length+1) K/\Good g p D/\Grow a S D/\wi g p D a x:=by
    intro l cf
    have P:Sound g p (a+1) ⟨x.al,x.dot+1,x.c9⟩:=m.on n C (.term s [] a (a+1) h0 l (.nil _))
    refine(Bx c g p _ S B (p.length+1) (a+1) ⟨x.al,x.dot+1,x.c9⟩ _ _ d (by omega) (by omega) (by omega) (by omega) ⟨by simp;omega,by simp;omega,by simp;omega⟩).mono λr H4 T=>?_
    exact⟨_,T.drop.drop.more (by omega),u.put P (u.top _ x Y) (by omega),oW S _ (by omega),f _ (λ_ _=>zd _ _ _) (λh=>by omega) (λh=>by omega)⟩
   simp(disch:=omega)only[↓wr,seval,wq,k,encI]
   apply ah.dec<;>intro h1
   .have v:p[a]?=some (p[a]'(by omega)):=U6 (by omega)
    generalize p[a]'(by omega)=pc at v
    simp(disch:=omega)only[↓wr,seval,wq,k,encI,v,U9]
    apply ah.eq<;>intro e1
    .simp(disch:=omega)only[↓wr,seval,wq,F]
     refine av.eD ((J ⟨pc,v,.inl e1⟩ (by omega)).mono λr H4 A=>?_)
     simp(disch:=omega)only[↓wr,seval,wq]
     exact A
    .simp(disch:=omega)only[↓wr,seval,wq,k,encI,v,U9]
     apply ah.eq<;>intro e2
     .simp(disch:=omega)only[↓wr,seval,wq,F]
      refine av.eD ((J ⟨pc,v,.inr e2⟩ (by omega)).mono λr H4 A=>?_)
      simp(disch:=omega)only[↓wr,seval,wq]
      exact A
     .simp(disch:=omega)only[↓wr,seval,wq]
      refine⟨S,d.drop.drop.more (by omega),u,.refl _ _,f _ (λ_ l=>?_) (λh=>by omega) (λh=>by omega)⟩
      obtain⟨bn,O,h6⟩:=l
      rw[v] at O;simp at O;subst O
      omega
   .simp(disch:=omega)only[↓wr,seval,wq]
    refine⟨S,d.drop.drop.more (by omega),u,.refl _ _,f _ (λ_ l=>?_) (λh=>by omega) (λh=>by omega)⟩
    obtain⟨bn,O,h6⟩:=l
    have:=(Vf.1 O).1
    omega
  .have hlen:=fi hr false
   have cg:=an (by omega)
   have aq:(ak g false)[(-1 - s).toNat]?=some ((ak g false).getD (-1 - s).toNat false):=by
    simp[U5,show (-1 - s).toNat < (ak g false).length by omega]
   generalize ar:(ak g false).getD (-1 - s).toNat false=nb at aq
   simp(disch:=omega)only[↓wr,seval,wq,k,bK,aq,U9]
   apply ah.split<;>intro U
   .have P:Sound g p a ⟨x.al,x.dot+1,x.c9⟩:=m.on n C (by
     obtain⟨Q,hQ,ch,br⟩:=LO hr _ (ar.trans U)
     have:=(w.left Q hQ).1
     exact .dD s [] Q a a a (by omega) hQ (by omega) (br p a) (.nil _))
    simp(disch:=omega)only[↓wr,seval,wq,F]
    refine av.eD ((Bx c g p _ S B (p.length+1) a ⟨x.al,x.dot+1,x.c9⟩ _ _ d (by omega) (by omega) (by omega) (by omega) ⟨by simp;omega,by simp;omega,by simp;omega⟩).mono λr H4 T=>?_)
    simp(disch:=omega)only[↓wr,seval,wq]
    refine av.eD ((vL c g w p hp _ _ _ a _ _ T (u.put P (u.top _ x Y) ha) ha (by omega) (-1 - s) ((u.top _ x Y).ask m n C)).mono ?_)
    rintro r2 H5 ⟨S2,V,W,t,X⟩
    simp(disch:=omega)only[↓wr,seval,wq]
    exact⟨S2,V.drop.drop.more (by omega),W,(oW S _ (Vh _)).trans t,f _ (λh=>by omega) (λ_=>X) (λ_ _=>t.mem (zd _ _ _))⟩
   .simp(disch:=omega)only[↓wr,seval,wq]
    refine av.eD ((vL c g w p hp _ _ _ a _ _ d u ha (by omega) (-1 - s) ((u.top _ x Y).ask m n C)).mono ?_)
    rintro r2 H5 ⟨S2,V,W,t,X⟩
    simp(disch:=omega)only[↓wr,seval,wq]
    exact⟨S2,V.drop.drop.more (by omega),W,t,f _ (λh=>by omega) (λ_=>X) (λ_ h=>by rw[ar,U] at h;simp at h)⟩
structure tX (H:View) (c sid:Nat) (u:V) (mi:Nat->Nat) (g:ae) (p:List Int) (nu:V) (n k:Nat):Prop where
 box:H c=.arr 8 [[.aS (g.ai.map cO),encS g.ao,.aS (g.rules.map aW),gi g.start,encI p,nu,.sl sid 0 n 1,u]]
 fA:H sid=.arr 1 ((List.range n).map λ_=>[.emp 1])
 seen:aZ H u 1 ((List.range k).map λj=>[.mp (mi j)])
 map:∀ j,j < k->H (mi j)=.map [] 0
 inj:∀ i j,i < k->j < k->mi i=mi j->i=j
theorem tX.Td {H:View} {c a:Nat} {u:V} {d:Nat->Nat} {g:ae} {p:List Int} {f:V} {n k:Nat} (h:tX H c a u d g p f n k) (i:0 < n):owner u≠some a:=λe=>by
 have h1:=(h.seen.live e).1
 rw[h.fA] at h1
 simp only[bT.arr.injEq,true_and] at h1
 have b:=VT (·[0]?) h1
 simp[i] at b
 by_cases hk:0 < k
 .simp[hk] at b
 .have:k=0:=by omega
  subst this
  simp at b
theorem tX.SV {H:View} {c a:Nat} {u:V} {b:Nat->Nat} {g:ae} {p:List Int} {d:V} {n k:Nat} (h:tX H c a u b g p d n k):owner u≠some c:=λe=>by
 have h1:=(h.seen.live e).1
 rw[h.box] at h1
 simp at h1
theorem tX.TE {H:View} {c b:Nat} {u:V} {l:Nat->Nat} {g:ae} {p:List Int} {m:V} {n:Nat} (h:tX H c b u l g p m n n) (r:0 < n):Ch H c g p m (λ_=>[]) 0 n []:=by
 obtain⟨f,hu,hm⟩:=h.seen.sl (by simp;omega)
 have a:=h.Td r
 refine⟨b,f,λ_=>.emp 1,l,λ_=>[],λ_=>0,?_,h.fA,hm,λj d=>aZ.nil,λj d=>⟨h.map j d,?_,λx=>⟨λk=>by simp at k,λ_=>rfl⟩⟩,?_,λi j o _ _ h1=>by simp[owner] at h1,λi j hi d e=>h.inj i j hi d e,λq s=>by simp at s⟩
 .have:=h.box
  rw[hu] at this
  simpa using this
 .exact⟨by simp,λx k=>by simp at k⟩
 .rintro rfl
  rw[hu] at a
  exact a rfl
theorem tX.next {H o:View} {c a m:Nat} {u u':V} {b:Nat->Nat} {g:ae} {p:List Int} {q:V} {n k:Nat} (h:tX H c a u b g p q n k) (w:0 < n) (hm:H m=.dead) (x:aZ o u' 1 (((List.range k).map λj=>[.mp (b j)]) ++ [[.mp m]])) (r:o m=.map [] 0)
  (s:∀ id,H id≠.dead->owner u≠some id->o id=H id/\owner u'≠some id) :
  tX (o.set c (.arr 8 [[.aS (g.ai.map cO),encS g.ao,.aS (g.rules.map aW),gi g.start,encI p,q,.sl a 0 n 1,u']])) c a u' (λj=>if j=k then m else b j) g p q n (k+1):=by
 have y:=s c (by rw[h.box];simp) h.SV
 have z:=s a (by rw[h.fA];simp) (h.Td w)
 have t:a≠c:=by rintro rfl;have:=h.box;rw[h.fA] at this;simp at this
 have f:∀ j,j < k->b j≠m:=λj l e=>by have:=h.map j l;rw[e,hm] at this;simp at this
 refine⟨by simp[View.set],?_,?_,λj l=>?_,λi j hi l e=>?_⟩
 .simp only[View.set,U8 t]
  rw[z.1];exact h.fA
 .refine aZ.other ?_ y.2
  have:(List.range (k+1)).map (λj=>[V.mp (if j=k then m else b j)])=(List.range k).map (λj=>[V.mp (b j)]) ++ [[.mp m]]:=by
   rw[Wd,Vz,VF,Wg,Va rfl]
   congr 1
   apply List.map_congr_left
   intro j l
   rw[U8 (by have:=Wa.1 l;omega)]
  rw[this];exact x
 .by_cases e:j=k
  .simp only[Va e]
   have:m≠c:=by rintro rfl;rw[h.box] at hm;simp at hm
   simp only[View.set,U8 this]
   exact r
  .simp only[U8 e]
   have h1:=h.map j (by omega)
   have:b j≠c:=by intro d;rw[d,h.box] at h1;simp at h1
   simp only[View.set,U8 this]
   rw[(s (b j) (by rw[h1];simp) (λd=>by have:=(h.seen.live d).1;rw[h1] at this;simp at this)).1]
   exact h1
 .by_cases v:i=k
  .by_cases d:j=k
   .omega
   .simp only[Va v,U8 d] at e
    exact absurd e.symm (f j (by omega))
  .by_cases d:j=k
   .simp only[U8 v,Va d] at e
    exact absurd e (f i (by omega))
   .simp only[U8 v,U8 d] at e
    exact h.inj i j (by omega) (by omega) e
def sL:SC :=
 af [ab [aV 22 .lss 21 20],bW 22 (.exit 0),.block 1 (ab [aa 23 6,aa 24 6,ed 25 24,au 26 7 25,aj 27 26,((some 28),.op (.sU)),((some 29),.op (.bG 1 1 [(.val (.map none))] [(0,(.tmp 28))])),fM 30 1 8 27 29,ed 31 23,au 32 7 31,cG 1 32 30]),ab [aE 33 .add 21 1,aa 21 33]]
def sM:SC :=
 af [af [ab [aa 42 8,aa 43 6,ed 44 43,au 45 6 44,aj 46 45,aa 47 7,aM 48 1 46 47,aj 49 48,aP 50 49,aV 51 .lss 42 50],bW 51 (.exit 4)],.block 5 (ab [aa 54 6,aa 55 7,aa 56 6,ed 57 56,au 58 6 57,aj 59 58,aa 60 7,aM 61 1 59 60,aj 62 61,aa 63 8,aM 64 3 62 63,aU 65 3 64,ba 66 111 [54,55,65]]),ab [aa 52 8,aE 53 .add 52 1,aa 8 53]]
def tb:SC :=
 af [ab [aV 40 .lss 39 38],bW 40 (.exit 2),.block 3 (af [ab [aa 41 39,aa 7 41],ab [aT 8 0],bX 4 sM]),ab [aE 67 .add 39 1,aa 39 67]]
def wW:SF:=⟨af [ab [cd 2 0,((some 4),.op (.ee (.val (.val (.pointer none)))))],ab [aa 9 1,aP 10 9,aE 11 .add 10 1,aa 5 11],.region true [⟨none,[aU 12 4 2,aa 13 1,aU 14 4 2,ba 15 109 [14],aa 16 5,((some 17),.op (.make 1 24 [(.emp 1)] (.tmp 16) (.tmp 16))),((some 18),.op (.build [(.emp 1),(.emp 1),(.emp 1),(.val (.int .i64 0)),(.emp 1),(.emp 1),(.emp 1),(.emp 1)] [(0,4,(.tmp 12)),(4,1,(.tmp 13)),(5,1,(.tmp 15)),(6,1,(.tmp 17))])),((some 19),.op (.box (.tmp 18))),aa 6 19]⟩],af [ab [aa 20 5,aT 21 0],bX 0 sL],ab [aa 34 6,au 35 3 2,aj 36 35,oE 37 110 [(.tmp 34),(.val (.val (.int .i64 0))),(.tmp 36)]],af [ab [aa 38 5,aT 39 0],bX 2 tb],ab [aa 68 6,aa 4 68],.ret],
 [.tmp 4],69⟩
theorem Aw:aQ Tryz.prog 53 [2]=some wW:=by kernel_rfl
theorem CA (g:ae) (hg:g.Ok) (hr:aO g=true) (a1:g.Small) (p:List Int) (hp:p.length<=60) (H:View):aw Tryz.prog 53 [.agg (ag g),encI p] H λr H'=>∃ c S B,r=.ptr c 0 0/\Ch H' c g p (bK (ak g false)) S B (p.length+1) []/\Good g p S/\sq g p S:=by
 have hf:=aK hr
 refine aw.of mixed Aw ?_
 simp(disch:=omega)only[↓wr,seval,wq,wW,ag,encI]
 have T:=(FR g hg a1).pure
 simp only[ag] at T
 refine⟨rfl,av.pure T ?_⟩
 have hM:((p.length:Int)+1).toNat=p.length+1:=by omega
 have a6:aJ (encS g.ao)=true:=rfl
 simp(disch:=omega)only[↓wr,seval,wq,hM,bK,a6,Bool.and_self]
 refine⟨⟨Vh _,by unfold aD;omega,by unfold aD;omega⟩,λU W=>?_⟩
 intro c hc
 obtain⟨J,a7⟩:=bS hc (by simp)
 refine bc.up (p.length+1) (λk f H'=>(∃ u mi,tX H' c U u mi g p (bK (ak g false)) (p.length+1) k)/\f 2=.aF (ag g) 0/\f 5=gi (p.length+1)/\f 6=.ptr c 0 0/\f 20=gi (p.length+1)/\f 21=gi k) ?_ ?_
 .refine⟨⟨.emp 1,λ_=>0,⟨by simp[View.set,bK,encI],?_,aZ.nil,λj hj=>by omega,λi j hi=>by omega⟩⟩,rfl,rfl,rfl,rfl,rfl⟩
  simp[View.set,Ne.symm J]
  apply List.ext_getElem (by simp)
  intro n h1 v
  cases n <;> simp
 clear hc a7 W
 rintro k m f H' hk ⟨⟨u,mi,D⟩,t2,t5,t6,t20,t21⟩
 simp(disch:=omega)only[↓wr,seval,wq,sL,t2,t5,t6,t20,t21]
 apply ah.dec<;>intro K
 .simp(disch:=omega)only[↓wr,seval,wq,t2,t5,t6,t20,t21,D.box]
  intro m1 E b1 F
  obtain⟨L,F⟩:=bS F (by simp)
  rw[bt]
  have ho:=(D.seen.fresh (o:=.map [] 0) E).fresh (o:=.arr 1 [[.mp m1]]) (m:=b1) (by simp[View.set,L,F])
  simp(disch:=omega)only[↓wr,seval,wq]
  refine nd ho (by simp) (by simp[V.cells,aJ]) (by simp[aD];omega) (by simp[aD];omega) λu' H3 M X=>?_
  have Y:∀ id,H' id≠.dead->owner u≠some id->H3 id=H' id/\owner u'≠some id:=λid h1 v=>by
   have n1:id≠m1:=by rintro rfl;exact h1 E
   have n2:id≠b1:=by rintro rfl;exact h1 F
   have:=X id (by simp[View.set,n1,n2,h1]) v
   rw[this.1]
   exact⟨by simp[View.set,n1,n2],this.2⟩
  have Z:=(Y c (by rw[D.box];simp) D.SV).1
  rw[D.box] at Z
  have a8:H3 m1=.map [] 0:=by
   have n3:owner u≠some m1:=D.seen.ne E
   rw[(X m1 (by simp[View.set,Ne.symm L]) n3).1]
   simp[View.set,Ne.symm L]
  simp(disch:=omega)only[↓wr,seval,wq,Z,M.cells,M.iG,t21]
  exact aI hk (by omega) ⟨⟨u',_,D.next (by omega) E M a8 Y⟩,t2,t5,t6,t20,rfl⟩
 .have bd:k=p.length+1:=by omega
  subst bd
  have w:=D.TE (by omega)
  clear D t20 t21
  simp(disch:=omega)only[↓wr,seval,wq,t2,t5,t6,ag]
  have bl:Good g p (λ_=>[]):=⟨λ_=>by simp,λa x d=>by simp at d,λa x d=>by simp at d,λ_ _=>rfl⟩
  refine av.eD ((vL c g hf p hp _ _ _ 0 _ _ w bl (by omega) (by omega) g.start .start).mono ?_)
  rintro r0 H2 ⟨S0,w,z,bn,q⟩
  simp(disch:=omega)only[↓wr,seval,wq,t2,t5,t6]
  refine bc.up (p.length+1) (λa f H'=>(∃ S,Ch H' c g p (bK (ak g false)) S (40+a * 293776000) (p.length+1) []/\Good g p S/\(∀ i R,g.rules[i]?=some R->R.left=g.start->(⟨i,0,0⟩:Item)∈S 0)/\∀ b,b < a->∀ x∈S b,wi g p S b x)/\f 5=gi (p.length+1)/\f 6=.ptr c 0 0/\f 38=gi (p.length+1)/\f 39=gi a) ?_ ?_
  .exact⟨⟨S0,w.more (by omega),z,q,λb hb=>by omega⟩,t5,t6,rfl,rfl⟩
  clear w z bn q t2 t5 t6
  rintro a m f H hk ⟨⟨S,w,z,q,h⟩,t5,t6,t38,t39⟩
  simp(disch:=omega)only[↓wr,seval,wq,tb,t5,t6,t38,t39]
  apply ah.dec<;>intro K
  .simp(disch:=omega)only[↓wr,seval,wq,t5,t6,t38,t39]
   refine bc.up 17080 (λi f H'=>(∃ S,Ch H' c g p (bK (ak g false)) S (40+a * 293776000+i * 17200) (p.length+1) []/\Good g p S/\(∀ i R,g.rules[i]?=some R->R.left=g.start->(⟨i,0,0⟩:Item)∈S 0)/\(∀ b,b < a->∀ x∈S b,wi g p S b x)/\i<=(S a).length/\∀ x∈(S a).take i,wi g p S a x)/\f 5=gi (p.length+1)/\f 6=.ptr c 0 0/\f 7=gi a/\f 8=gi i/\f 38=gi (p.length+1)/\f 39=gi a) ?_ ?_
   .exact⟨⟨S,w.more (by omega),z,q,h,We _,λx d=>by simp at d⟩,t5,t6,rfl,rfl,t38,t39⟩
   clear w z q h t5 t6 t38 t39
   rintro i k f H hi ⟨⟨S,w,z,q,h,b4,N⟩,t5,t6,t7,t8,t38,t39⟩
   have A:a < p.length+1:=by omega
   obtain⟨U,b5,sv,G,C,ho⟩:=w.set (a:=a) A
   simp(disch:=omega)only[↓wr,seval,wq,sM,t5,t6,t7,t8,t38,t39,G,C,iL A,ho.len]
   refine⟨A,by simp;omega,?_⟩
   have b7:=z.len hf hp a
   apply ah.dec<;>intro hc
   .obtain⟨m,br,hm⟩:=ho.sl (by simp;omega)
    have O:(S a)[i]?=some ((S a)[i]'(by omega)):=U6 (by omega)
    have an:(S a)[i]'(by omega)∈S a:=Vg _
    have aq:(S a).take (i+1)=(S a).take i ++ [(S a)[i]'(by omega)]:=by rw[Vs,O];rfl
    generalize (S a)[i]'(by omega)=x at O an aq
    have bs:((S a).map eS).getD i []=[cF x.al,cF x.dot,cF x.c9]:=by simp[U5,O,eS]
    simp(disch:=omega)only[↓wr,seval,wq,t5,t6,t7,t8,t38,t39,G,C,iL A,br,hm,bs]
    refine⟨A,by simp;omega,by omega,by omega,?_⟩
    refine av.eD ((RC c g hr p hp S _ a x _ _ w z (by omega) (by omega) an).mono ?_)
    rintro r1 H4 ⟨S',bx,b0,l,b2⟩
    simp(disch:=omega)only[↓wr,seval,wq,t8]
    refine aI hi (by omega) ⟨⟨S',bx.more (by omega),b0,λj R h1 v=>l.mem (q j R h1 v),λb hb x d=>(h b hb x (by rw[(l b).2 hb] at d;exact d)).grow (l.low (by omega)),?_,?_⟩,t5,t6,t7,rfl,t38,t39⟩
    .have:=(l a).1.length_le
     omega
    .obtain⟨t,ht⟩:=(l a).1
     rw[<-ht,WI (by omega),aq]
     intro y I
     rcases VK.1 I with I | I
     .exact(N y I).grow l
     .simp at I;subst I;exact b2
   .simp(disch:=omega)only[↓wr,seval,wq,t5,t6,t7,t8,t38,t39]
    have ar:i=(S a).length:=by omega
    rw[ar,WJ] at N
    refine aI hk (by omega) ⟨⟨S,w.more (by omega),z,q,λb hb x d=>?_⟩,t5,t6,t38,rfl⟩
    by_cases e:b=a
    .subst e;exact N x d
    .exact h b (by omega) x d
  .simp(disch:=omega)only[↓wr,seval,wq,t5,t6,t38,t39]
   have b3:∀ b x,x∈S b->b<=p.length:=λb x d=>by
    apply Wv
    intro hn
    rw[z.out b (by omega)] at d
    simp at d
   have hd:=λb x (d:x∈S b)=>h b (by have:=b3 b x d;omega) x d
   refine⟨c,S,_,rfl,w,z,⟨q,λa x R s d h1 v P Q=>(hd a x d).term R s h1 v P Q,λa x R s i R' d h1 v P Q h5 _=>(hd a x d).pred R s i R' h1 v P Q h5,λa x R s d h1 v P Q _=>(hd a x d).null R s h1 v P Q,λa y R' x R s I h1 v P d Q h5 h6 h7 _=>?_⟩⟩
   refine(hd a y I).comp R' h1 v P x d R Q ?_
   rw[h5,h7]
   congr 1
   omega
end Gv
