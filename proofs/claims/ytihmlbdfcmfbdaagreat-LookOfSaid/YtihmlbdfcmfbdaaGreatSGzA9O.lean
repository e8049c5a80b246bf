/-
  Part 15 of the proof: what the machine does and what the functions answer.
  Conditions: those that each lemma names.
-/
import Derived.Test.YtihmlbdfcmfbdaaGreatSGzA9N
set_option linter.unusedSimpArgs false
set_option linter.unusedVariables false
set_option maxRecDepth 100000
namespace Gv
open Go Go.Proofs
section
variable {κ:Type} [BEq κ] [LawfulBEq κ] {kv:κ→V} {P:Program} {T:Env} {H:View} {kt et t ty:TypeId}
theorem UI {K:V→View→Prop} {w:cD (T,H,K)} {x i y:Operand} {id c:Nat} {m:bU κ} {k:κ} {v:V} (hm:dB P t=some (kt,et)) (hk:HX P kt kv)
  (hx:ev T x=.mp id) (hi:ev T i=kv k) (hy:ev T y=v) (hH:H id=.map (bR kv m) c) (hb:gG m c)
  (h:∀ c',gG (bN k v c m) c'→K .any (H.set id (.map (bR kv (bN k v c m)) c'))):kz P (.mapUpdate t x i y) ty T H K w:=by
 intro n _
 have hf:=hk.find k false m
 have hg:=mP (kv:=kv) k m
 cases hj:gU k m with
 | some j =>
  rw[hj] at hg hf
  obtain ⟨z,h1,h2,h3,h4,h5,h6⟩:=hg
  refine ⟨.any,.fj id (.map ((bR kv m).set j (kv k,v,z.2.2)) c),[id],?_,?_⟩
  ·simp only[sI,cq,oper,fo,hm,hx,hi,hy,hH,hf,h5,hk.same k,if_true]
  ·rw[(h6 v c).1]; exact h c (hb.PH h4 v c)
 | none =>
  rw[hj] at hg hf
  refine ⟨.any,.fj id (.map (bR kv m ++ [(kv k,v,c)]) (c+1)),[id],?_,?_⟩
  ·simp only[sI,cq,oper,fo,hm,hx,hi,hy,hH,hf]
  ·rw[(hg.2.2 v c).1]; exact h (c+1) (hb.put k v)
end
def eU (x:Int × Int):V:=.agg [.val (.int .i64 x.1),.val (.int .i64 x.2)]
def pJ (x:Int × Int):Value:=.agg #[.int .i64 x.1,.int .i64 x.2]
theorem De (x:Int × Int):dr (eU x)=some (pJ x):=rfl
theorem Ex:∀ m:bU (Int × Int),im (bR eU m)=some (m.map fun x=>{ key:=pJ x.1,val:=.nilFunc,born:=x.2.2 })
 | []=>rfl
 | x :: r=>by
  have:=Ex r
  simp only[bR] at this
  simp[bR,im,De,this]
structure Qv (P:Program) (kt:TypeId):Prop where
 ty:∃ f0 f1:Field,P.underlying kt=some (.struct #[f0,f1])∧f0.name≠ "_" ∧ f1.name≠ "_" ∧ P.underlying f0.type=some (.int .i64)∧P.underlying f1.type=some (.int .i64)∧f0.offset=0∧f1.offset=1
 held:P.stoodInHeld kt=false
theorem z6 {P:Program} {kt:TypeId} (h:Qv P kt):HX P kt eU where
 same:=fun k=>by simp[sameKey,De,pJ,Instr.sameBits]
 find:=by
  obtain ⟨f0,f1,hu,n0,n1,u0,u1,o0,o1⟩:=h.ty
  have heq:∀ a b:Int × Int,bM P (Op.equal kt (pJ a) (pJ b))=some (a == b):=by
   intro a b
   have hf:fL P 9998 #[.int .i64 a.1,.int .i64 a.2] #[.int .i64 b.1,.int .i64 b.2] [f0,f1] ((a.1 == b.1) && ((a.2 == b.2) && true)) :=
    .int f0 _ _ .i64 _ _ n0 u0 (by rw[o0]; rfl) (by rw[o0]; rfl) (.int f1 _ _ .i64 _ _ n1 u1 (by rw[o1]; rfl) (by rw[o1]; rfl) .nil)
   rw[pJ,pJ,so hu h.held hf]
   congr 1
   rw[We]
   simp only[Vm,Wd,and_true]
   cases a; cases b; simp
  have hask:∀ (k:Int × Int) (m:bU (Int × Int)) (i:Nat),bM P (Instr.findAsking kt (pJ k) (m.map fun x=>{ key:=pJ x.1,val:=.nilFunc,born:=x.2.2 }) i)=some ((gU k m).map fun j=>(i+j,.nilFunc)):=by
   intro k m
   induction m with
   | nil=>intro i; rfl
   | cons x r ih =>
    intro i
    simp only[VC,Instr.findAsking,bD,heq,VP,gU]
    cases hk:k == x.1 with
    | true=>simp[zf]
    | false =>
     simp only[VA,if_false,ih (i+1),Option.map_map]
     congr 2
     funext j
     simp only[Function.comp]
     congr 1
     omega
  have hint:∀ (e:Bool) (ft:TypeId) (v:Value),P.underlying ft=some (.int .i64)→bM P (Instr.checkKey e 9999 ft v)=some ():=fun e ft v hft=>wh hft trivial e 9998 v
  have hchk:∀ (k:Int × Int) (e:Bool),bM P (Instr.checkKey e 10000 kt (pJ k))=some ():=by
   intro k e
   unfold Instr.checkKey pJ
   rw[bD,eh hu,VP]
   have p0:=jz (P:=P) u0 (.inr ⟨_,rfl⟩) #[.int .i64 k.1,.int .i64 k.2] f0.offset (v:=.int .i64 k.1) (by rw[o0]; rfl)
   have p1:=jz (P:=P) u1 (.inr ⟨_,rfl⟩) #[.int .i64 k.1,.int .i64 k.2] f1.offset (v:=.int .i64 k.2) (by rw[o1]; rfl)
   simp only[← Array.forIn_toList,List.forIn_cons,List.forIn_nil,Vd n0,Vd n1,bD,p0,p1,hint e _ _ u0,hint e _ _ u1,VP,zf]
  intro k e m
  have hu':bM P (underlying kt)=some _:=eh hu
  simp only[mE,De,Ex,bD,hchk,VP]
  have:bM P (Instr.findKey kt (pJ k) (m.map fun x=>{ key:=pJ x.1,val:=.nilFunc,born:=x.2.2 }))=some ((gU k m).map fun j=>(0+j,.nilFunc)):=by
   unfold Instr.findKey
   rw[bD,hu',VP]
   cases m with
   | nil=>rfl
   | cons x r=>exact hask k (x :: r) 0
  rw[this]
  cases gU k m with
  | none=>rfl
  | some j=>simp
def vL:SC :=
 .seq (ao [bc 29 .lss 28 27]) <|
 .seq (.cond (.tmp 29) (.skip) (.exit 2)) <|
 .seq (.block 3 (.seq (ao [aP 30 2 26 28,bp 31 2 30,((some 9),.op (.alloc [(.val (.int .i64 0)),(.val (.int .i64 0))])),(none,.op (.store 2 (.tmp 9) (.tmp 31)))]) <|
 .seq (ao [aB 32 0 9,ax 33 32,aQ 34 .lss 33 0]) <|
 .cond (.tmp 34) (.seq (ao [aj 35 6,aB 36 0 9,ax 37 36,((some 38),.op (.arith .sub (.val (.val (.int .i64 (-1)))) (.tmp 37))),((some 39),.op (.build [(.val (.int .i64 0)),(.val (.int .i64 0))] [(0,1,(.tmp 35)),(1,1,(.tmp 38))])),((some 10),.op (.alloc [(.val (.int .i64 0)),(.val (.int .i64 0))])),(none,.op (.store 2 (.tmp 10) (.tmp 39)))]) <|
 .seq (ao [aj 40 5,dg 41 40,aB 42 6 41,ax 43 42,bp 44 2 10,aj 45 5,dg 46 45,aB 47 7 46,ax 48 47,aX 49 48,(none,.op (.old (.mapUpdate 110 (.tmp 43) (.tmp 44) (.tmp 49)) 0))]) <|
 ao [aj 50 5,aj 51 5,dg 52 51,aB 53 7 52,ax 54 53,bp 55 2 10,((some 56),.op (.cg 1 2 [(.val (.int .i64 0)),(.val (.int .i64 0))] [(0,(.tmp 55))])),((some 57),.op (.app 2 16 (.tmp 54) (.tmp 56))),dg 58 50,aB 59 7 58,(none,.op (.store 1 (.tmp 59) (.tmp 57)))]) (.skip))) <|
 ao [aQ 60 .add 28 1,aj 28 60]
def u9:SC :=
 .seq (ao [bc 21 .lss 20 19]) <|
 .seq (.cond (.tmp 21) (.skip) (.exit 0)) <|
 .seq (.block 1 (.seq (ao [aj 22 20,aP 23 2 18 20,bp 24 2 23,((some 7),.op (.alloc [(.emp 1),(.emp 1)])),aj 6 22,(none,.op (.store 2 (.tmp 7) (.tmp 24)))]) <|
 .seq (ao [aB 25 1 7,ax 26 25,aX 27 26,bj 28 0]) <|
 .block 2 (.loop vL))) <|
 ao [aQ 61 .add 20 1,aj 20 61]
def za:SF:=⟨.seq (ao [cL 2 0,((some 4),.op (.bL (.val (.val (.pointer none)))))]) <|
 .seq (.region true [⟨none,[bp 11 4 2,aj 12 1,bp 13 4 2,bC 14 118 [13],((some 15),.op (.nM)),((some 16),.op (.build [(.emp 1),(.emp 1),(.emp 1),(.val (.int .i64 0)),(.emp 1),(.emp 1),(.val (.map none)),(.emp 1),(.emp 1),(.emp 1)] [(0,4,(.tmp 11)),(4,1,(.tmp 12)),(5,1,(.tmp 14)),(6,1,(.tmp 15))])),((some 17),.op (.box (.tmp 16))),aj 5 17]⟩]) <|
 .seq (.seq (ao [aj 18 1,aX 19 18,bj 20 0]) <|
 .block 0 (.loop u9)) <|
 .seq (ao [aj 62 5,aj 63 5,dg 64 63,aB 65 7 64,ax 66 65,aX 67 66,((some 68),.op (.make 1 4 [(.val (.int .u32 0))] (.tmp 67) (.tmp 67))),dg 69 62,aB 70 8 69,(none,.op (.store 1 (.tmp 70) (.tmp 68)))]) <|
 .seq (ao [aj 71 5,aj 72 5,dg 73 72,aB 74 7 73,ax 75 74,aX 76 75,((some 77),.op (.make 1 24 [(.emp 1)] (.tmp 76) (.tmp 76))),dg 78 71,aB 79 9 78,(none,.op (.store 1 (.tmp 79) (.tmp 77)))]) <|
 .seq (ao [aj 80 5,aj 4 80]) <|
 .ret,
 [.tmp 4],81⟩
theorem CC:aV Tryz.prog 72 [2]=some za:=by kernel_rfl
theorem wz:Qv Tryz.prog 116 :=
 ⟨⟨⟨ "state",3,0,false,"","gerund/look",0⟩,⟨ "non",3,1,false,"","gerund/look",8⟩,by kernel_rfl,by decide,by decide,Tryz.underlying3,Tryz.underlying3,rfl,rfl⟩,by kernel_rfl⟩
def jy (i:Nat) (l:List dx):List (Int × Int):=(l.filter fun e=>decide (e.sym < 0)).map fun e=>((i:Int),-1 - e.sym)
def kE (a:List aR) (n:Nat):List (Int × Int):=(List.range n).flatMap fun i=>jy i (a.getD i bH).bk
abbrev bg (a:List aR):List (Int × Int):=kE a a.length
theorem w5 (a:List aR) (n:Nat):kE a (n+1)=kE a n ++ jy n (a.getD n bH).bk:=by
 unfold kE
 rw[V0,List.flatMap_append]; simp
theorem PY {i j:Nat} {l:List dx} {e:dx} (h:l[j]?=some e):jy i (l.take (j+1))=if e.sym < 0 then jy i (l.take j) ++ [((i:Int),-1 - e.sym)] else jy i (l.take j):=by
 unfold jy
 rw[FC h]
 by_cases he:e.sym < 0
 ·simp[he]
 ·simp[he]
theorem RM {a:List aR} : ∀ {n m:Nat},n≤m→kE a n <+: kE a m:=fun {n m} h=>by
 induction h with
 | refl=>exact List.prefix_refl _
 | step _ ih=>rw[w5]; exact ih.trans (List.prefix_append _ _)
theorem Kz (i:Nat) (l:List dx):(jy i l).length≤l.length:=by
 unfold jy; rw[Vg]; exact VZ _ _
theorem lq {a:List aR} (h:∀ s∈a,s.bk.length≤40):∀ n,(kE a n).length≤40 * n
 | 0=>by simp[kE]
 | n+1=>by
  have ih:=lq h n
  rw[w5,V6]
  have h1:=Kz n (a.getD n bH).bk
  have h2:(a.getD n bH).bk.length≤40:=by
   rcases Vy n a.length with q | q
   ·exact h _ (Vf (getD_some q))
   ·rw[U8,VI q]; simp[bH]
  omega
abbrev mA (ws:List (Int × Int)):List (List V):=ws.map fun x=>[gi x.1,gi x.2]
def GS (ws:List (Int × Int)) (M:bU (Int × Int)):Prop:=∀ (k:Nat) (x:Int × Int),ws[k]?=some x→getM M x=some (gi k)
theorem GS.put {ws:List (Int × Int)} {M:bU (Int × Int)} (h:GS ws M) {x:Int × Int} (hx:x ∉ ws) (c:Nat):GS (ws ++ [x]) (bN x (gi ws.length) c M):=fun k y hy=>by
 rw[pB]
 by_cases hk:k < ws.length
 ·rw[Vz hk] at hy
  have hne:(y == x)=false:=beq_eq_false_iff_ne.2 fun e=>hx (e ▸ Vf hy)
  rw[hne]
  exact h k y hy
 ·rw[VN (by omega)] at hy
  have:k - ws.length=0:=by
   rcases Nat.eq_zero_or_pos (k - ws.length) with q | q
   ·exact q
   ·rw[VI (by simp; omega)] at hy; simp at hy
  rw[this] at hy
  simp at hy
  subst hy
  rw[WE,Vd rfl,show k=ws.length by omega]
abbrev iL (A:List (V × List Nat)):List cz:=A.map fun x=>(x.1,1,fu x.2)
structure cW (g:aw) (a:List aR) (H:View) (W qn cM:Nat) (M:bU (Int × Int)) (uw:V) (s e:Nat) (ws:List (Int × Int)) (Sl:List BV) (A:List (V × List Nat)) (L:List cz):Prop where
 own:bt H ((.sl W 0 1 10,10,[[.aK (g.ay.map b6),.aK (g.az.map fun s=>[gs s]),.aK (g.rules.map aO),gi g.start,bm a,bP (aA g false),.mp qn,uw,.sl s 0 ws.length 1,.sl e 0 ws.length 1]]) :: (uw,2,mA ws) :: (.sl s 0 ws.length 1,1,bT Sl) :: (.sl e 0 ws.length 1,1,bQ A) :: (iL A ++ L))
 mp:H qn=.map (bR eU M) cM
 bo:gG M cM
 num:GS ws M
 sl:Sl.length=ws.length
 al:A.length=ws.length
def J8 (g:aw) (a:List aR) (H:View) (W qn:Nat) (ws:List (Int × Int)):Prop:=∃ (uw:V) (cM:Nat) (M:bU (Int × Int)),
 bt H [(.sl W 0 1 10,10,[[.aK (g.ay.map b6),.aK (g.az.map fun s=>[gs s]),.aK (g.rules.map aO),gi g.start,bm a,bP (aA g false),.mp qn,uw,.emp 1,.emp 1]]),(uw,2,mA ws)]∧H qn=.map (bR eU M) cM∧gG M cM∧GS ws M
theorem J8.fresh {g:aw} {a:List aR} {H:View} {W qn:Nat} {ws:List (Int × Int)} (h:J8 g a H W qn ws) {q:Nat} (hq:H q=.dead) {o:cZ} : J8 g a (H.set q o) W qn ws:=by
 obtain ⟨uw,cM,M,h1,h2,h3,h4⟩:=h
 refine ⟨uw,cM,M,h1.fresh hq,?_,h3,h4⟩
 simp only[View.set]; rw[Va (fun e=>by rw[e,hq] at h2; simp at h2)]; exact h2
theorem bt.Pv {H:View} {L:List cz} (h:bt H L):∀ n:Nat,bt H (L ++ iL (List.replicate n (.emp 1,[])))
 | 0=>by simpa using h
 | n+1=>by
  have ih:=(bt.Pv h n).emp (k:=1) (sz:=1)
  rw[List.replicate_succ,iL,VC]
  exact ih.perm VS.symm
set_option maxHeartbeats 16000000 in
theorem QL (g:aw) (hg:g.Ok) (hsm:g.Small) (a:List aR) (ha:a.length≤300) (he:∀ s∈a,s.bk.length≤40∧∀ e∈s.bk,-1000≤e.sym∧e.sym≤1000) (hnd:(bg a).Nodup) (h1:1≤(bg a).length) (H:View) :
  aC Tryz.prog 72 [.agg (au g),bm a] H fun r H'=>∃ (W qn cM:Nat) (M:bU (Int × Int)) (uw:V) (s e:Nat),r=.ptr W 0 0∧cW g a H' W qn cM M uw s e (bg a) (List.replicate (bg a).length 0) (List.replicate (bg a).length (.emp 1,[])) []:=by
 refine aC.of mixed CC ?_
 have hnl:=(yB g hg hsm).pure
 have hlen:=lq (fun s h=>(he s h).1)
 simp only[au,encS] at hnl
 simp (disch:=omega) only [↓wr,seval,wq,ah,ag,ak,aa,ab,af,ai,ae,za,au,encS]
 refine aD.pure hnl (by kernel_rfl) ?_
 simp (disch:=omega) only [↓wr,seval,wq,ah,ag,ak,aa,ab,af,ai,ae,bm,bP]
 intro qn hqn W hW
 have hWq:W≠qn:=fun e=>by rw[Vd e] at hW; simp at hW
 rw[Va hWq] at hW
 have hstart:J8 g a ((H.set qn (.map [] 0)).set W (.arr 10 [[.aK (g.ay.map b6),.aK (g.az.map fun s=>[gs s]),.aK (g.rules.map aO),gi g.start,bm a,bP (aA g false),.mp qn,.emp 1,.emp 1,.emp 1]])) W qn (kE a 0):=by
  refine ⟨.emp 1,0,[],?_,by simp[View.set,Ne.symm hWq,bR],⟨by simp,by simp⟩,fun k x h=>by simp[kE] at h⟩
  exact ((bt.nil.emp (k:=1) (sz:=2)).fresh hqn).new (n:=W) (by simp[View.set,hWq,hW]) 10 [[.aK (g.ay.map b6),.aK (g.az.map fun s=>[gs s]),.aK (g.rules.map aO),gi g.start,bm a,bP (aA g false),.mp qn,.emp 1,.emp 1,.emp 1]]
 refine aZ.up a.length (fun i T H'=>J8 g a H' W qn (kE a i)∧T 5=.ptr W 0 0∧T 18=bm a∧T 19=gi a.length∧T 20=gi i) ⟨hstart,rfl,rfl,rfl,rfl⟩ ?_
 clear hstart hW hqn hWq
 rintro i k T H' hk ⟨hI,t5,t18,t19,t20⟩
 simp (disch:=omega) only [↓wr,seval,wq,ah,ag,ak,aa,ab,af,ai,ae,u9,t5,t18,t19,t20]
 refine av.dec (fun hc=>?_) (fun hc=>?_)
 rotate_left
 ·have hia:i=a.length:=by omega
  subst hia
  obtain ⟨uw,cM,M,hO,hMp,hBo,hNu⟩:=hI
  have hW0:=hO.is 0 rfl (by simp)
  have hul:cH uw=some (bg a).length:=by rw[hO.tail.head.len,Vg]
  have hnl2:(bg a).length≤40 * a.length:=hlen a.length
  have hucell:=hO.tail.head.cells
  have hucok:=hO.tail.head.gR
  have hQW:qn≠W:=fun e=>by rw[e,hW0] at hMp; simp at hMp
  have hWd:∀ q,H' q=.dead→W≠q:=fun q hq e=>by rw[e,hq] at hW0; simp at hW0
  simp (disch:=omega) only [↓wr,seval,wq,ah,ag,ak,aa,ab,af,ai,ae,t5,hW0,hul]
  refine ⟨⟨by omega,by unfold aJ; omega,by unfold aJ; omega⟩,fun h0=>by omega,fun _ s hs=>?_⟩
  have w1:=hWd s hs
  simp (disch:=omega) only [↓wr,seval,wq,ah,ag,ak,aa,ab,af,ai,ae,t5,hW0,hul,w1]
  refine ⟨⟨by omega,by unfold aJ; omega,by unfold aJ; omega⟩,fun h0=>by omega,fun _ e he0=>?_⟩
  obtain ⟨n1,he0⟩:=iJ he0
  obtain ⟨n2,he0⟩:=iJ he0
  simp (disch:=omega) only [↓wr,seval,wq,ah,ag,ak,aa,ab,af,ai,ae,t5,Ne.symm n1]
  have o1:=hO.new hs 1 (List.replicate (bg a).length [V.val (.int .u32 0)])
  have o2:=(o1.perm (.swap _ _ _)).put (es':=[[.aK (g.ay.map b6),.aK (g.az.map fun s=>[gs s]),.aK (g.rules.map aO),gi g.start,bm a,bP (aA g false),.mp qn,uw,.sl s 0 (bg a).length 1,.emp 1]]) rfl rfl
  have o3:=o2.new (n:=e) (by simp only[View.set]; rw[Va n1,Va n2]; exact he0) 1 (List.replicate (bg a).length [.emp 1])
  have o4:=(o3.perm (.swap _ _ _)).put (es':=[[.aK (g.ay.map b6),.aK (g.az.map fun s=>[gs s]),.aK (g.rules.map aO),gi g.start,bm a,bP (aA g false),.mp qn,uw,.sl s 0 (bg a).length 1,.sl e 0 (bg a).length 1]]) rfl rfl
  have o5:=(o4.perm (.cons _ (List.reverse_perm _).symm)).Pv (bg a).length
  have e1:List.replicate (bg a).length [V.val (.int .u32 0)]=bT (List.replicate (bg a).length 0#32):=by simp
  have e2:List.replicate (bg a).length [V.emp 1]=bQ (List.replicate (bg a).length ((V.emp 1,[]):V × List Nat)):=by simp[bQ]
  simp only[WO,List.reverse_cons,List.reverse_nil,V9,VL] at o5
  refine ⟨W,qn,cM,M,uw,s,e,rfl,?_,?_,hBo,hNu,by simp,by simp⟩
  ·rw[← e1,← e2,Wx]; exact o5
  ·simp only[View.set]
   rw[Va hQW,Va (fun h=>by rw[h,he0] at hMp; simp at hMp),Va hQW,Va (fun h=>by rw[h,hs] at hMp; simp at hMp)]
   exact hMp
 have hx:a[i]?=some (a.getD i bH):=getD_some (by omega)
 have hstep:=w5 a i
 have hpre:=RM (a:=a) (n:=i+1) (m:=a.length) (by omega)
 rw[hstep] at hpre
 generalize a.getD i bH=x at hx hstep hpre
 obtain ⟨hx1,hx2⟩:=he x (Vf hx)
 simp (disch:=omega) only [↓wr,seval,wq,ah,ag,ak,aa,ab,af,ai,ae,t5,t18,t19,t20,bm,Vc,hx,Vh,iO]
 intro q1 hq1
 rw[set_set]
 have hI1:=hI.fresh hq1 (o:=.arr 2 [[.aK (aT x.bh),.aK (fy x.bk)]])
 generalize H'.set q1 (.arr 2 [[.aK (aT x.bh),.aK (fy x.bk)]])=H1 at hI1 ⊢
 refine aZ.up x.bk.length (fun j T H'=>J8 g a H' W qn (kE a i ++ jy i (x.bk.take j))∧T 5=.ptr W 0 0∧T 6=gi i∧T 18=bm a∧T 19=gi a.length∧T 20=gi i∧T 26=.aK (fy x.bk)∧T 27=gi x.bk.length∧T 28=gi j) ⟨by simpa [jy] using hI1,t5,rfl,t18,t19,t20,rfl,by show gi ((fy x.bk).length:Int)=_; simp[fy],rfl⟩ ?_
 clear t5 t18 t19 t20 hI hI1 hq1
 rintro j m T H2 hm2 ⟨hI2,t5,t6,t18,t19,t20,t26,t27,t28⟩
 simp (disch:=omega) only [↓wr,seval,wq,ah,ag,ak,aa,ab,af,ai,ae,vL,t5,t6,t26,t27,t28]
 refine av.dec (fun hc2=>?_) (fun hc2=>?_)
 rotate_left
 ·simp (disch:=omega) only [↓wr,seval,wq,ah,ag,ak,aa,ab,af,ai,ae,t5,t18,t19,t20]
  rw[Vq (by omega),← hstep] at hI2
  exact aM hk (by omega) ⟨hI2,t5,t18,t19,rfl⟩
 have hy:x.bk[j]?=some (x.bk[j]'(by omega)):=U9 (by omega)
 have hym:=Vi (show j < x.bk.length by omega)
 generalize x.bk[j]'(by omega)=y at hy hym
 have hyb:=hx2 y hym
 have htk:=PY (i:=i) hy
 simp (disch:=omega) only [↓wr,seval,wq,ah,ag,ak,aa,ab,af,ai,ae,t5,t6,t18,t19,t20,t26,t27,t28,fy,Vc,hy,Vh,jo]
 intro q2 hq2
 refine av.dec (fun hneg=>?_) (fun hneg=>?_)
 rotate_left
 ·simp (disch:=omega) only [↓wr,seval,wq,ah,ag,ak,aa,ab,af,ai,ae,t5,t6,t18,t19,t20,t26,t27,t28]
  rw[set_set]
  rw[Va hneg] at htk
  exact aM hm2 (by omega) ⟨by rw[htk]; exact hI2.fresh hq2,t5,t6,t18,t19,t20,t26,t27,rfl⟩
 rw[Vd hneg] at htk
 rw[set_set]
 have hI3:=hI2.fresh hq2 (o:=.arr 2 [[gi y.sym,gi y.to]])
 have hq2':(H2.set q2 (.arr 2 [[gi y.sym,gi y.to]])) q2=.arr 2 [[gi y.sym,gi y.to]]:=by simp[View.set]
 generalize H2.set q2 (.arr 2 [[gi y.sym,gi y.to]])=H3 at hI3 hq2' ⊢
 clear hI2 hq2
 simp (disch:=omega) only [↓wr,seval,wq,ah,ag,ak,aa,ab,af,ai,ae,t5,t6,hq2']
 intro q3 hq3
 obtain ⟨uw,cM,M,hO,hMp,hBo,hNu⟩:=hI3
 have hW3:=hO.is 0 rfl (by simp)
 have hWq3:W≠q3:=fun e=>by rw[e,hq3] at hW3; simp at hW3
 have hQq3:qn≠q3:=fun e=>by rw[e,hq3] at hMp; simp at hMp
 have hul:cH uw=some (kE a i ++ jy i (x.bk.take j)).length:=by rw[hO.tail.head.len,Vg]
 have hwl:=hlen i
 have hwl2:=Kz i (x.bk.take j)
 rw[VQ] at hwl2
 have hnew:((i:Int),-1 - y.sym) ∉ kE a i ++ jy i (x.bk.take j):=by
  have h2:(kE a i ++ jy i (x.bk.take (j+1))).Nodup:=by
   have h3:jy i (x.bk.take (j+1)) <+: jy i x.bk:=by
    unfold jy
    refine List.IsPrefix.map _ (List.IsPrefix.filter _ (List.take_prefix _ _))
   obtain ⟨r,hr⟩:=h3
   have h4:=hpre.sublist.nodup hnd
   rw[← hr,← VV,V2] at h4
   exact h4.1
  rw[htk,← VV,V2] at h2
  exact fun h=>h2.2.2 _ h _ (by simp) rfl
 have htk2:kE a i ++ jy i (x.bk.take (j+1))=(kE a i ++ jy i (x.bk.take j)) ++ [((i:Int),-1 - y.sym)]:=by rw[htk,VV]
 have hwb:(kE a i ++ jy i (x.bk.take j)).length≤20000:=by rw[V6]; omega
 clear htk
 generalize kE a i ++ jy i (x.bk.take j)=ws at *
 simp (disch:=omega) only [↓wr,seval,wq,ah,ag,ak,aa,ab,af,ai,ae,t5,t6,hWq3,hQq3,hW3,hul]
 have hmt:dB Tryz.prog 110=some (116,3):=by kernel_rfl
 refine UI (kv:=eU) (kt:=116) (et:=3) (id:=qn) (c:=cM) (m:=M) (k:=((i:Int),-1 - y.sym)) (v:=gi (ws.length:Int)) hmt (z6 wz) (by first | rfl | simp (disch:=omega) only [↓wr,seval,wq,ah,ag,ak,aa,ab,af,ai,ae]) (by first | rfl | (simp (disch:=omega) only [↓wr,seval,wq,ah,ag,ak,aa,ab,af,ai,ae]; rfl)) (by first | rfl | simp (disch:=omega) only [↓wr,seval,wq,ah,ag,ak,aa,ab,af,ai,ae]) (by show (View.set (View.set H3 q3 _) q3 _) qn=_; simp only[View.set]; rw[Va hQq3,Va hQq3]; exact hMp) hBo fun c' hb'=>?_
 rw[set_set]
 have hO5:=(hO.fresh hq3 (o:=.arr 2 [[gi (i:Int),gi (-1 - y.sym)]])).vr (b:=qn) (c:=cM) (es:=bR eU M) (by simp only[View.set]; rw[Va hQq3]; exact hMp) (o:=.map (bR eU (bN ((i:Int),-1 - y.sym) (gi (ws.length:Int)) cM M)) c')
 have hM5:((H3.set q3 (.arr 2 [[gi (i:Int),gi (-1 - y.sym)]])).set qn (.map (bR eU (bN ((i:Int),-1 - y.sym) (gi (ws.length:Int)) cM M)) c')) qn=.map (bR eU (bN ((i:Int),-1 - y.sym) (gi (ws.length:Int)) cM M)) c':=by simp[View.set]
 have hq5:((H3.set q3 (.arr 2 [[gi (i:Int),gi (-1 - y.sym)]])).set qn (.map (bR eU (bN ((i:Int),-1 - y.sym) (gi (ws.length:Int)) cM M)) c')) q3=.arr 2 [[gi (i:Int),gi (-1 - y.sym)]]:=by
  simp only[View.set]; rw[Va (Ne.symm hQq3)]; simp
 have hNu5:=hNu.put hnew cM
 generalize ((H3.set q3 (.arr 2 [[gi (i:Int),gi (-1 - y.sym)]])).set qn (.map (bR eU (bN ((i:Int),-1 - y.sym) (gi (ws.length:Int)) cM M)) c'))=H5 at hO5 hM5 hq5 ⊢
 generalize bN ((i:Int),-1 - y.sym) (gi (ws.length:Int)) cM M=M5 at hb' hM5 hNu5
 clear hO hMp hBo hNu hW3 hq3 hq2' hWq3 hQq3
 have hW5:=hO5.is 0 rfl (by simp)
 simp (disch:=omega) only [↓wr,seval,wq,ah,ag,ak,aa,ab,af,ai,ae,t5,hW5,hq5]
 intro q4 hq4
 simp (disch:=omega) only [↓wr,seval,wq,ah,ag,ak,aa,ab,af,ai,ae,bV]
 refine cn ((hO5.perm (.swap _ _ _)).fresh hq4) (by simp[aU]) (by unfold aJ; simp; omega) (by unfold aJ; simp; omega) ?_
 intro uw2 H6 hO6 l6
 have hW6:=hO6.is 1 rfl (by simp)
 have hM6:=l6.map (((hO5.perm (.swap _ _ _)).fresh hq4).head) (b:=qn) (c:=c') (es:=bR eU M5) (by simp only[View.set]; rw[Va (fun e=>by rw[← e,hM5] at hq4; simp at hq4)]; exact hM5)
 have hQW:qn≠W:=fun e=>by rw[e,hW6] at hM6; simp at hM6
 simp (disch:=omega) only [↓wr,seval,wq,ah,ag,ak,aa,ab,af,ai,ae,t5,t6,t18,t19,t20,t26,t27,t28,hW6,hO6.head.cells,hO6.head.gR]
 have hO7:=(hO6.perm (.swap _ _ _)).put (es':=[[.aK (g.ay.map b6),.aK (g.az.map fun s=>[gs s]),.aK (g.rules.map aO),gi g.start,bm a,bP (aA g false),.mp qn,uw2,.emp 1,.emp 1]]) rfl rfl
 have e:mA ws ++ [[gi (i:Int),gi (-1 - y.sym)]]=mA (ws ++ [((i:Int),-1 - y.sym)]):=by simp
 rw[e] at hO7
 refine aM hm2 (by omega) ⟨?_,t5,t6,t18,t19,t20,t26,t27,rfl⟩
 rw[htk2]
 exact ⟨uw2,c',M5,hO7,by simp only[View.set]; rw[Va hQW]; exact hM6,hb',hNu5⟩
def uI (ws:List (Int × Int)) (x:Int × Int):Nat:=(cE (fun y=>y == x) ws 0).toNat
theorem jL {ws:List (Int × Int)} {x:Int × Int} (h:x∈ws):ws[uI ws x]?=some x:=by
 unfold uI
 rcases EH (fun y=>y == x) ws 0 (Int.le_refl _) with h1 | ⟨k,y,h1,h2,h3,_⟩
 ·have:=EO _ ws 0 (Int.le_refl _) h1 x h
  simp at this
 ·rw[h1,show ((0:Int)+(k:Int)).toNat=k by omega,h2]
  simp at h3
  rw[h3]
theorem IA {ws:List (Int × Int)} (hn:ws.Nodup) {k:Nat} {x:Int × Int} (h:ws[k]?=some x):uI ws x=k:=by
 have h1:=jL (Vf h)
 exact (List.getElem?_inj (Vn.1 h1).1 hn).1 (h1.trans h.symm)
section
variable {g:aw} {a:List aR}
theorem dw {p:Nat} {B:Int} : ((p:Int),B)∈bg a↔0≤B∧eK a p (-1 - B):=by
 simp only[bg,kE,List.mem_flatMap,V5,jy,Vw,VX,Vo,Ve,eK]
 constructor
 ·rintro ⟨i,hi,e,⟨h1,h2⟩,h3,h4⟩
  have:i=p:=by omega
  subst this
  exact ⟨by omega,e,h1,by omega⟩
 ·rintro ⟨h0,e,h1,h2⟩
  exact ⟨p,(zY h1).1,e,⟨h1,by omega⟩,rfl,by omega⟩
theorem sy {x:Int × Int} (h:x∈bg a):∃ p:Nat,x=((p:Int),x.2):=by
 simp only[bg,kE,List.mem_flatMap,V5,jy,Vw] at h
 obtain ⟨i,_,e,_,rfl⟩:=h
 exact ⟨i,rfl⟩
theorem Pc {i:Nat} {l:List dx} (h:(l.map dx.sym).Nodup):(jy i l).Nodup:=by
 unfold jy
 have h1:((l.filter fun e=>decide (e.sym < 0)).map dx.sym).Nodup:=(List.Sublist.map _ List.filter_sublist).nodup h
 unfold List.Nodup at h1 ⊢
 rw[Xe] at h1 ⊢
 exact h1.imp fun hne e=>hne (by simp only[Ve] at e; omega)
theorem yD (hA:cF g a):(bg a).Nodup:=by
 have key:∀ n,n≤a.length→(kE a n).Nodup∧∀ x∈kE a n,x.1 < n:=by
  intro n
  induction n with
  | zero=>intro _; simp[kE]
  | succ n ih =>
   intro hn
   obtain ⟨h1,h2⟩:=ih (by omega)
   rw[w5]
   have hm:=Vf (getD_some (d:=bH) (show n < a.length by omega))
   have h3:(jy n (a.getD n bH).bk).Nodup:=Pc (by rw[hA.x.all _ hm]; exact Ah _ _ _)
   have h4:∀ x∈jy n (a.getD n bH).bk,x.1=n:=fun x hx=>by
    simp only[jy,Vw] at hx
    obtain ⟨e,_,rfl⟩:=hx; rfl
   refine ⟨V2.2 ⟨h1,h3,fun x hx y hy e=>?_⟩,fun x hx=>?_⟩
   ·have:=h2 x hx
    have:=h4 y hy
    rw[e] at *
    omega
   ·rcases VE.1 hx with hx | hx
    ·have:=h2 x hx; push_cast; omega
    ·have:=h4 x hx; push_cast; omega
 exact (key a.length (Vj _)).1
theorem pG (hA:cF g a):1≤(bg a).length:=by
 have h0:eK a 0 (-1 - g.start):=(hA.nS (by have:=hA.pos; omega)).2 ⟨⟨-1,0⟩,(cY hA.dG (hA.bh (by have:=hA.pos; omega))).2 (.base (by rw[hA.e.first]; simp)),by
  unfold bA; rw[Va (by simp[aW])]; simp[aW]⟩
 have:=dw.2 ⟨hA.dG.me,h0⟩
 exact List.length_pos_of_mem this
def oF (b:BV) (l:List dx):BV:=l.foldl (fun b e=>if 0≤e.sym then b ||| dN e.sym else b) b
def nQ (g:aw) (x:Int × Int):BV:=if x.1=0∧x.2=g.start then dN g.ay.length else 0
def s8 (g:aw) (ws:List (Int × Int)) (q:Nat) (l:List dx):List Nat:=(l.filter fun e=>decide (e.sym < 0) && (aA g false).getD (-1 - e.sym).toNat false).map fun e=>uI ws ((q:Int),-1 - e.sym)
def ri (g:aw) (a:List aR) (x:Int × Int):BV:=oF (nQ g x) (a.getD (ef a x.1.toNat (-1 - x.2)) bH).bk
def mU (g:aw) (a:List aR) (x:Int × Int):List Nat:=s8 g (bg a) (ef a x.1.toNat (-1 - x.2)) (a.getD (ef a x.1.toNat (-1 - x.2)) bH).bk
theorem EP {t:Nat} : ∀ (l:List dx) (b:BV),(oF b l).getLsbD t=true↔b.getLsbD t=true∨∃ e∈l,0≤e.sym∧(dN e.sym).getLsbD t=true
 | [],b=>by simp[oF]
 | e :: l,b=>by
  have ih:=EP (t:=t) l (if 0≤e.sym then b ||| dN e.sym else b)
  unfold oF at ih ⊢
  rw[VF,ih]
  by_cases h:0≤e.sym
  ·rw[Vd h,VM,V7]
   constructor
   ·rintro ((h1 | h1) | ⟨x,h1,h2⟩)
    ·exact .inl h1
    ·exact .inr ⟨e,by simp,h,h1⟩
    ·exact .inr ⟨x,by simp[h1],h2⟩
   ·rintro (h1 | ⟨x,h1,h2⟩)
    ·exact .inl (.inl h1)
    ·rcases Vp.1 h1 with rfl | h1
     ·exact .inl (.inr h2.2)
     ·exact .inr ⟨x,h1,h2⟩
  ·rw[Va h]
   constructor
   ·rintro (h1 | ⟨x,h1,h2⟩)
    ·exact .inl h1
    ·exact .inr ⟨x,by simp[h1],h2⟩
   ·rintro (h1 | ⟨x,h1,h2⟩)
    ·exact .inl h1
    ·rcases Vp.1 h1 with rfl | h1
     ·exact absurd h2.1 h
     ·exact .inr ⟨x,h1,h2⟩
abbrev du (a:List aR) (x:Nat):Int × Int:=(bg a).getD x (0,0)
theorem Bq (hA:cF g a) {p t:Nat} {B:Int} (he:eK a p (-1 - B)):(ri g a ((p:Int),B)).getLsbD t=true↔(p=0∧B=g.start∧t=g.ay.length)∨(t < g.ay.length∧eK a (ef a p (-1 - B)) t):=by
 have hT:=hA.dG.ay
 obtain ⟨_,_,_,_,hq,_⟩:=hA.ef he
 unfold ri
 simp only[Vv]
 rw[EP]
 refine or_congr ?_ ?_
 ·unfold nQ
  simp only
  split
  ·rename_i h
   rw[sB (by omega)]
   exact ⟨fun h2=>⟨by omega,h.2,h2⟩,fun h2=>h2.2.2⟩
  ·rename_i h
   exact ⟨fun h2=>by simp at h2,fun h2=>absurd ⟨by omega,h2.2.1⟩ h⟩
 ·constructor
  ·rintro ⟨e,h1,h2,h3⟩
   have hE:eK a (ef a p (-1 - B)) e.sym:=⟨e,h1,rfl⟩
   obtain ⟨y,hy,hn⟩:=(hA.nS hq).1 hE
   have hb:=pD (pI hA.dG (hA.has hq hy) hn)
   obtain ⟨k,hk⟩:∃ k:Nat,e.sym=k:=⟨e.sym.toNat,by omega⟩
   rw[hk,sB (by omega)] at h3
   subst h3
   exact ⟨by omega,by rw[← hk]; exact hE⟩
  ·rintro ⟨h1,e,h2,h3⟩
   exact ⟨e,h2,by omega,by rw[h3,sB (by omega)]⟩
theorem Ba (hA:cF g a) {p y:Nat} {B:Int} (_:eK a p (-1 - B)):y∈mU g a ((p:Int),B)↔∃ C:Int,0≤C∧(aA g false).getD C.toNat false=true∧eK a (ef a p (-1 - B)) (-1 - C)∧(bg a)[y]?=some ((ef a p (-1 - B):Int),C):=by
 unfold mU s8
 simp only[Vv,Vw,VX,Vm,Vo]
 constructor
 ·rintro ⟨e,⟨h1,h2,h3⟩,rfl⟩
  have hE:eK a (ef a p (-1 - B)) (-1 - (-1 - e.sym)):=⟨e,h1,by omega⟩
  exact ⟨-1 - e.sym,by omega,h3,hE,jL (dw.2 ⟨by omega,hE⟩)⟩
 ·rintro ⟨C,h1,h2,⟨e,h3,h4⟩,h5⟩
  refine ⟨e,⟨h3,by omega,by rw[h4,show -1 - (-1 - C)=C by omega]; exact h2⟩,?_⟩
  rw[h4,show -1 - (-1 - C)=C by omega]
  exact IA (yD hA) h5
theorem J9 (hA:cF g a) {x:Nat} (hx:x < (bg a).length):∀ y∈mU g a (du a x),y < (bg a).length:=fun y hy=>by
 have hg:(bg a)[x]?=some (du a x):=getD_some hx
 have hm:=Vf hg
 obtain ⟨p,hp⟩:=sy hm
 rw[hp] at hm hy
 obtain ⟨_,_,_,_,h⟩:=(Ba hA (dw.1 hm).2).1 hy
 exact (Vn.1 h).1
theorem M0 (hA:cF g a) {x t:Nat} {p:Nat} {B:Int} (hx:(bg a)[x]?=some ((p:Int),B)):lp (fun x=>mU g a (du a x)) (fun x=>ri g a (du a x)) x t↔oH g a p B t:=by
 have hget:∀ {x:Nat} {y:Int × Int},(bg a)[x]?=some y→du a x=y:=fun {x y} h=>by
  rw[du,U8,h]; rfl
 constructor
 ·rintro ⟨w,hr,hw⟩
  induction hr generalizing p B with
  | refl =>
   have he:=(dw.1 (Vf hx)).2
   simp only at hw
   rw[hget hx] at hw
   rcases (Bq hA he).1 hw with ⟨rfl,rfl,rfl⟩ | ⟨h1,h2⟩
   ·exact .fin
   ·exact .term h1 h2
  | @step x y w hy hr ih =>
   have he:=(dw.1 (Vf hx)).2
   rw[hget hx] at hy
   obtain ⟨C,h1,h2,h3,h4⟩:=(Ba hA he).1 hy
   exact .null h1 h3 h2 (ih h4 hw)
 ·intro h
  induction h generalizing x with
  | fin =>
   have he:=(dw.1 (Vf hx)).2
   exact ⟨x,.refl,by simp only; rw[hget hx]; exact (Bq hA he).2 (.inl ⟨rfl,rfl,rfl⟩)⟩
  | @term p B t h1 h2 =>
   have he:=(dw.1 (Vf hx)).2
   exact ⟨x,.refl,by simp only; rw[hget hx]; exact (Bq hA he).2 (.inr ⟨h1,h2⟩)⟩
  | @null p B C t h1 h2 h3 h4 ih =>
   have he:=(dw.1 (Vf hx)).2
   have hm:=jL (dw.2 ⟨h1,h2⟩)
   obtain ⟨w,k1,k2⟩:=ih hm
   exact ⟨w,.step (by rw[hget hx]; exact (Ba hA he).2 ⟨C,h1,h3,h2,hm⟩) k1,k2⟩
end
def ij (l:List UInt8):Value:=.string ⟨l.toArray⟩
theorem HN {a b:List UInt8} : ((⟨a.toArray⟩:ByteArray) == ⟨b.toArray⟩)=(a == b):=by
 show (a.toArray == b.toArray)=_
 simp
theorem Iy {P:Program} {kt:TypeId} (h:P.underlying kt=some .string):AT P kt ij where
 ty:=⟨_,h,fun a b=>by simp only[Instr.sameNow,ij,HN],fun a e=>wh h trivial e 9999 _⟩
 bits:=fun a b hab=>by
  have:a=b:=by simpa using hab
  subst this
  show ((⟨a.toArray⟩:ByteArray) == ⟨a.toArray⟩)=true
  rw[HN]; simp
def pL (l:List aH):List Int:=l.flatMap fun x=>[x.aF+1,x.dot]
theorem QV (l:List aH):(pL l).length=2 * l.length:=by
 induction l with
 | nil=>rfl
 | cons x l ih=>simp only[pL,List.flatMap_cons,V6,Vr,VJ] at ih ⊢; omega
theorem BJ:∀ l:List aH,kV ((pL l).map fun n=>[gy n])=some (fX l)
 | []=>rfl
 | x :: l=>by
  have ih:=BJ l
  simp only[pL,fX,List.flatMap_cons,VL,V9,VC,kV] at ih ⊢
  rw[ih]; rfl
theorem Rp {x:Int} (h1:0≤x) (h2:x < 256):IntKind.wrap .u8 x=x:=by
 unfold IntKind.wrap
 have e1:(2:Int) ^ IntKind.u8.bits=256:=by rfl
 have e2:IntKind.u8.signed=false:=by rfl
 simp only[e1,e2,WN,VA,if_false]
 omega
theorem Tu {P:Program} {T:Env} {H:View} {K:V→View→Prop} {w:cD (T,H,K)} {t e d ty:TypeId} {x:Operand} {u:V} {xs:List (List V)} {rd:List Nat} {l:List UInt8} {k:Nat} (hu:P.underlying t=some (.slice e)) (he:P.underlying e=some (.int .u8)) (hd:P.underlying d=some .string)
  (hx:ev T x=u) (hl:bZ H u=some (xs,rd)) (hn:cH u=some k) (ht:kV xs=some l) (hk:K (.val (ij l)) H):kz P (.convert t d x) ty T H K w:=by
 intro n _
 have hb:kK P t d=true:=by simp[kK,hu]
 refine ⟨.val (ij l),.none,rd,?_,hk⟩
 simp only[sI,cq,oper]
 rw[Vd hb,hx]
 simp[mJ,hu,he,hd,hl,hn,ht,ij]
def vt:SC :=
 .seq (ao [bc 15 .lss 14 13]) <|
 .seq (.cond (.tmp 15) (.skip) (.exit 0)) <|
 .seq (.block 1 (.seq (ao [aP 16 2 12 14,bp 17 2 16,((some 7),.op (.alloc [(.val (.int .i64 0)),(.val (.int .i64 0))])),(none,.op (.store 2 (.tmp 7) (.tmp 17)))]) <|
 .seq (ao [bp 19 4 2,bp 20 2 7,bC 21 50 [19,20],aj 18 21,fK 22 0 18,fK 23 1 18,aj 8 22,aj 9 23]) <|
 .seq (ao [aj 24 9]) <|
 .cond (.tmp 24) (.seq (ao [bp 25 4 2,aj 26 8,bC 27 111 [25,26],aj 10 27]) <|
 ao [aj 28 5,aj 29 10,aj 30 5,aj 31 10,((some 32),.op (.old (.lookup 98 (.tmp 30) (.tmp 31) false) 27)),aB 33 0 7,ax 34 33,aB 35 1 7,ax 36 35,aQ 37 .add 36 1,((some 38),.op (.build [(.val (.int .i64 0)),(.val (.int .i64 0))] [(0,1,(.tmp 34)),(1,1,(.tmp 37))])),((some 39),.op (.cg 1 2 [(.val (.int .i64 0)),(.val (.int .i64 0))] [(0,(.tmp 38))])),((some 40),.op (.app 2 16 (.tmp 32) (.tmp 39))),(none,.op (.old (.mapUpdate 98 (.tmp 28) (.tmp 29) (.tmp 40)) 0))]) (.skip))) <|
 ao [aQ 41 .add 14 1,aj 14 41]
def zt:SF:=⟨.seq (ao [cL 2 0,((some 4),.op (.bL (.val (.val (.map none)))))]) <|
 .seq (ao [((some 11),.op (.nM)),aj 5 11]) <|
 .seq (.seq (ao [aj 12 1,aX 13 12,bj 14 0]) <|
 .block 0 (.loop vt)) <|
 .seq (ao [aj 42 5,aj 4 42]) <|
 .ret,
 [.tmp 4],43⟩
theorem Cm:aV Tryz.prog 63 [2]=some zt:=by kernel_rfl
def yy:SC :=
 .seq (ao [bc 9 .lss 8 7]) <|
 .seq (.cond (.tmp 9) (.skip) (.exit 0)) <|
 .seq (.block 1 (.seq (ao [aP 10 2 6 8,bp 11 2 10,((some 5),.op (.alloc [(.val (.int .i64 0)),(.val (.int .i64 0))])),(none,.op (.store 2 (.tmp 5) (.tmp 11)))]) <|
 ao [aj 12 3,aB 13 0 5,ax 14 13,aQ 15 .add 14 1,((some 16),.op (.conv .u8 (.tmp 15))),aB 17 1 5,ax 18 17,((some 19),.op (.conv .u8 (.tmp 18))),((some 20),.op (.cg 2 1 [(.val (.int .u8 0))] [(0,(.tmp 16)),(1,(.tmp 19))])),((some 21),.op (.app 1 1 (.tmp 12) (.tmp 20))),aj 3 21])) <|
 ao [aQ 22 .add 8 1,aj 8 22]
def CV:SF:=⟨.seq (.region false [⟨none,[((some 2),.op (.bL (.val (.val (.string ⟨#[]⟩)))))]⟩]) <|
 .seq (ao [((some 3),.op (.bL (.val (.emp 1))))]) <|
 .seq (.seq (ao [aj 6 0,aX 7 6,bj 8 0]) <|
 .block 0 (.loop yy)) <|
 .seq (ao [aj 23 3,((some 24),.op (.old (.convert 91 9 (.tmp 23)) 9)),aj 2 24]) <|
 .ret,
 [.tmp 2],25⟩
theorem FL:aV Tryz.prog 62 []=some CV:=by kernel_rfl
set_option maxHeartbeats 4000000 in
theorem Ix (g:aw) (hf:g.dK) (l:List aH) (hl:∀ x∈l,cr g x) (hn:l.length≤10000) (u:V) (H:View) (ho:ba H u 2 (aT l)):aC Tryz.prog 62 [u] H fun r H'=>r=.val (ij (fX l))∧∀ id,H id≠.dead→H' id=H id:=by
 refine aC.of mixed FL ?_
 have hlen:cH u=some l.length:=by rw[ho.len,bJ]
 have hru:=hf.rules
 simp (disch:=omega) only [↓wr,seval,wq,ah,ag,ak,aa,ab,af,ai,ae,CV,hlen]
 refine aZ.up l.length (fun i T H'=>∃ b:V,ba H' b 1 ((pL (l.take i)).map fun n=>[gy n])∧dh H H' b∧T 3=b∧T 6=u∧T 7=gi l.length∧T 8=gi i) ⟨.emp 1,.nil,.emp,rfl,rfl,rfl,rfl⟩ ?_
 rintro i k T H' hk ⟨b,hb,fb,t3,t6,t7,t8⟩
 simp (disch:=omega) only [↓wr,seval,wq,ah,ag,ak,aa,ab,af,ai,ae,yy,t3,t6,t7,t8]
 refine av.dec (fun hc=>?_) (fun hc=>?_)
 ·have hx:l[i]?=some (l[i]'(by omega)):=U9 (by omega)
  have hxm:=hl _ (Vi (show i < l.length by omega))
  have htk:l.take (i+1)=l.take i ++ [l[i]'(by omega)]:=by rw[Vx,hx]; rfl
  generalize l[i]'(by omega)=x at hx hxm htk
  have hr6:=eS hf hxm.1
  have hx1:=hxm.1
  have hx2:=hxm.2
  obtain ⟨id,hu,hid⟩:=ho.sl (by rw[bJ]; omega)
  have hid':H' id=.arr 2 (aT l):=by rw[(fb id (by rw[hid]; simp)).1,hid]
  rw[bJ] at hu
  subst hu
  have hkl:=QV (l.take i)
  rw[VQ] at hkl
  simp (disch:=omega) only [↓wr,seval,wq,ah,ag,ak,aa,ab,af,ai,ae,t3,t6,t7,t8,hid',qp hx,Rp (x:=x.aF+1) (by omega) (by omega),Rp (x:=x.dot) (by omega) (by omega)]
  refine ⟨by omega,by rw[bJ]; omega,?_⟩
  intro q hq q2 hq2
  obtain ⟨hne,hq3⟩:=de hq2 (by simp)
  rw[Va hne] at hq3
  have hqH:∀ j,H j≠.dead→j≠q∧j≠q2:=fun j hj=>by
   have h1:=(fb j hj).1
   exact ⟨fun e=>hj (by rw[e] at h1 ⊢; rw[← h1,hq]),fun e=>hj (by rw[e] at h1 ⊢; rw[← h1,hq3])⟩
  have hb3:∀ a0 a1 a2,ba (((H'.set q a0).set q a1).set q2 a2) b 1 ((pL (l.take i)).map fun n=>[gy n]):=fun a0 a1 a2=>hb.keep fun id hid=>by
   have h1:=(hb.live hid).1
   have e1:id≠q:=by rintro rfl; rw[hq] at h1; simp at h1
   have e2:id≠q2:=by rintro rfl; rw[hq3] at h1; simp at h1
   simp[View.set,e1,e2]
  have hset:∀ a0 a1 a2 j,H j≠.dead→(((H'.set q a0).set q a1).set q2 a2) j=H j:=fun a0 a1 a2 j hj=>by
   obtain ⟨e1,e2⟩:=hqH j hj
   simp[View.set,e1,e2,(fb j hj).1]
  have hel:∀ (a0 a1:cZ) (e1 e2:List V),bZ (((H'.set q a0).set q a1).set q2 (.arr 1 [e1,e2])) (.sl q2 0 2 1)=some ([e1,e2],[q2]):=fun a0 a1 e1 e2=>by simp[bZ,View.set]
  simp (disch:=omega) only [↓wr,seval,wq,ah,ag,ak,aa,ab,af,ai,ae,hel,t3]
  refine gS (hb3 _ _ _) (by simp[aU]) (by unfold aJ; simp; omega) (by unfold aJ; simp; omega) ?_
  intro b2 H5 o5 l5
  simp (disch:=omega) only [↓wr,seval,wq,ah,ag,ak,aa,ab,af,ai,ae,t6,t7,t8]
  refine aM hk (by omega) ⟨b2,?_,fun j hj=>?_,rfl,t6,t7,rfl⟩
  ·have:(pL (l.take (i+1))).map (fun n=>[gy n])=(pL (l.take i)).map (fun n=>[gy n]) ++ [[gy (x.aF+1)],[gy x.dot]]:=by
    rw[htk]; simp[pL]
   rw[this]; exact o5
  ·obtain ⟨k1,k2⟩:=l5 j (by rw[hset _ _ _ j hj]; exact hj) (fb j hj).2
   exact ⟨by rw[k1,hset _ _ _ j hj],k2⟩
 ·rw[Vq (by omega)] at hb
  simp (disch:=omega) only [↓wr,seval,wq,ah,ag,ak,aa,ab,af,ai,ae,t3]
  have hel:∃ rd,bZ H' b=some ((pL l).map (fun n=>[gy n]),rd):=by
   rcases hb with ⟨e,k,rfl⟩ | ⟨n,rfl,hn⟩
   ·exact ⟨[],by rw[e]; rfl⟩
   ·rcases hq:(pL l).map (fun n=>[gy n]) with _ | ⟨y,ys⟩
    ·exact ⟨[],by simp[bZ]⟩
    ·rw[hq] at hn
     exact ⟨[n],by
      have:=rU (H:=H') n 0 ys.length 1 1 (y :: ys) hn (by simp)
      rw[Vr,this]; simp⟩
  obtain ⟨rd,hel⟩:=hel
  refine Tu (u:=b) (xs:=(pL l).map fun n=>[gy n]) (rd:=rd) (k:=((pL l).map fun n=>[gy n]).length) (l:=fX l) Tryz.underlying91 Tryz.underlying5 Tryz.underlying9 (by simp (disch:=omega) only [↓wr,seval,wq,ah,ag,ak,aa,ab,af,ai,ae]; exact t3) hel hb.len (BJ l) ?_
  simp (disch:=omega) only [↓wr,seval,wq,ah,ag,ak,aa,ab,af,ai,ae]
  exact fun id hid=>(fb id hid).1
theorem zC (g:aw) (p:List aH) (y:aH) (s:Int):bz g (p ++ [y]) s=if bA g y=(s,true) then bz g p s ++ [⟨y.aF,y.dot+1⟩] else bz g p s:=by
 unfold bz
 rw[WB,VB]
 split
 ·rename_i h; simp[h]
 ·rename_i h; simp[h]
def jh (g:aw) (p:List aH) (A:bU Int):List cz:=A.map fun x=>(x.2.1,2,aT (bz g p (bf g x.1.toNat)))
structure tH (g:aw) (p:List aH) (H0 H:View) (q:Nat) (A:bU Int):Prop where
 mp:∃ c,H q=.map (cx (Value.int .i64) A) c
 nd:(A.map (·.1)).Nodup
 own:bt H (jh g p A)
 ne:∀ x∈A,0≤x.1∧bz g p (bf g x.1.toNat)≠[]
 all:∀ k:Nat,bz g p (bf g k)≠[]→((k:Nat):Int)∈A.map (·.1)
 old:∀ id,H0 id≠.dead→H id=H0 id
 q0:H0 q=.dead
 new:∀ x∈A,∀ id,owner x.2.1=some id→H0 id=.dead
theorem getM_none {A:bU Int} {k:Int} : getM A k=none↔k ∉ A.map (·.1):=by
 induction A with
 | nil=>simp[getM]
 | cons x A ih =>
  unfold getM at ih ⊢
  rw[WV]
  by_cases h:k=x.1
  ·simp[h]
  ·simp only[beq_eq_false_iff_ne.2 h,VC,Vp,not_or]
   rw[ih]
   simp[h]
theorem wY {A:bU Int} {k:Int} {v:V} (h:getM A k=some v):∃ A1 A2 b,A=A1 ++ (k,v,b) :: A2∧k ∉ A1.map (·.1)∧∀ v' c,bN k v' c A=A1 ++ (k,v',b) :: A2:=by
 induction A with
 | nil=>simp[getM] at h
 | cons x A ih =>
  unfold getM at h ih
  rw[WV] at h
  by_cases e:k=x.1
  ·simp only[e,WE,Vh,Vb] at h
   refine ⟨[],A,x.2.2,by rw[e,← h]; rfl,by simp,fun v' c=>?_⟩
   rw[bN,e,WE,Vd rfl]; rfl
  ·rw[beq_eq_false_iff_ne.2 e] at h
   obtain ⟨A1,A2,b,rfl,h2,h3⟩:=ih h
   refine ⟨x :: A1,A2,b,rfl,by simp only[VC,Vp,not_or]; exact ⟨e,h2⟩,fun v' c=>?_⟩
   rw[bN,beq_eq_false_iff_ne.2 e,h3]; rfl
theorem QQ {A:bU Int} {k:Int} (h:k ∉ A.map (·.1)) (v:V) (c:Nat):bN k v c A=A ++ [(k,v,c)]:=by
 induction A with
 | nil=>rfl
 | cons x A ih =>
  simp only[VC,Vp,not_or] at h
  rw[bN,beq_eq_false_iff_ne.2 h.1,ih h.2]; rfl
theorem tH.skip {g:aw} {p:List aH} {H0 H:View} {q:Nat} {A:bU Int} (h:tH g p H0 H q A) {y:aH} (hy:(bA g y).2=false):tH g (p ++ [y]) H0 H q A:=by
 have e:∀ s,bz g (p ++ [y]) s=bz g p s:=fun s=>by rw[zC,Va (fun h=>by rw[h] at hy; simp at hy)]
 have e2:jh g (p ++ [y]) A=jh g p A:=by simp only[jh,e]
 exact ⟨h.mp,h.nd,by rw[e2]; exact h.own,fun x hx=>by rw[e]; exact h.ne x hx,fun k hk=>by rw[e] at hk; exact h.all k hk,h.old,h.q0,h.new⟩
theorem tH.val {g:aw} {p:List aH} {H0 H:View} {q:Nat} {A:bU Int} (h:tH g p H0 H q A) (r:Nat):ba H ((getM A r).getD (.emp 1)) 2 (aT (bz g p (bf g r))):=by
 cases hg:getM A r with
 | none =>
  have hn:=getM_none.1 hg
  have:bz g p (bf g r)=[]:=Wc fun hne=>hn (h.all r hne)
  rw[this]; exact .nil
 | some v =>
  obtain ⟨A1,A2,b,rfl,_,_⟩:=wY hg
  have:=h.own.1 (v,2,aT (bz g p (bf g r))) (by simp[jh])
  exact this
theorem tH.put {g:aw} {p:List aH} {H0 H:View} {q:Nat} {A:bU Int} (h:tH g p H0 H q A) {y:aH} {r:Nat} (hy:bA g y=(bf g r,true)) {H1:View} {v':V} (o1:ba H1 v' 2 (aT (bz g p (bf g r) ++ [⟨y.aF,y.dot+1⟩]))) (l1:Left H H1 ((getM A r).getD (.emp 1)) v') (c c':Nat) :
  tH g (p ++ [y]) H0 (H1.set q (.map (cx (Value.int .i64) (bN (r:Int) v' c A)) c')) q (bN (r:Int) v' c A):=by
 obtain ⟨c0,hq⟩:=h.mp
 have hr:bz g (p ++ [y]) (bf g r)=bz g p (bf g r) ++ [⟨y.aF,y.dot+1⟩]:=by rw[zC,Vd hy]
 have hne:∀ x:Int × V × Nat,0≤x.1→x.1≠r→bz g (p ++ [y]) (bf g x.1.toNat)=bz g p (bf g x.1.toNat):=fun x h0 hx=>by
  rw[zC,Va]
  intro e
  rw[hy] at e
  simp only[Ve,and_true] at e
  have h1:=wg g r
  rw[e,wg] at h1
  omega
 have howq:owner ((getM A r).getD (.emp 1))≠some q:=fun e=>by
  have:=((h.val r).live e).1
  rw[hq] at this; simp at this
 have hq1:H1 q≠.dead∧owner v'≠some q:=by
  obtain ⟨k1,k2⟩:=l1 q (by rw[hq]; simp) howq
  exact ⟨by rw[k1,hq]; simp,k2⟩
 have hold:∀ id,H0 id≠.dead→id≠q∧owner ((getM A r).getD (.emp 1))≠some id:=fun id hid=>by
  refine ⟨fun e=>hid (by rw[e]; exact h.q0),fun e=>?_⟩
  cases hg:getM A r with
  | none=>rw[hg] at e; simp[owner] at e
  | some v =>
   rw[hg] at e
   obtain ⟨A1,A2,b,rfl,_,_⟩:=wY hg
   exact hid (h.new (r,v,b) (by simp) id e)
 have hold2:∀ id,H0 id≠.dead→(H1.set q (.map (cx (Value.int .i64) (bN (r:Int) v' c A)) c')) id=H0 id:=fun id hid=>by
  simp only[View.set]
  rw[Va (hold id hid).1,(l1 id (by rw[h.old id hid]; exact hid) (hold id hid).2).1,h.old id hid]
 have hv':∀ id,owner v'=some id→H0 id=.dead:=fun id e=>Wi fun hid=>(l1 id (by rw[h.old id hid]; exact hid) (hold id hid).2).2 e
 have hset:∀ {L:List cz},bt H1 L→(∀ x∈L,owner x.1≠some q)→bt (H1.set q (.map (cx (Value.int .i64) (bN (r:Int) v' c A)) c')) L:=fun hL hx=>⟨fun x hxm=>(hL.1 x hxm).other (hx x hxm),hL.2⟩
 have hmapq:∀ x∈A,owner x.2.1≠some q:=fun x hx=>h.own.zX hq _ (Vw.2 ⟨x,hx,rfl⟩)
 cases hg:getM A r with
 | none =>
  have hn:=getM_none.1 hg
  rw[hg] at l1
  rw[QQ hn] at *
  have e1:jh g (p ++ [y]) (A ++ [((r:Int),v',c)])=jh g p A ++ [(v',2,aT (bz g p (bf g r) ++ [⟨y.aF,y.dot+1⟩]))]:=by
   simp only[jh,VB,VC,WM,Vv,hr]
   congr 1
   refine Xh fun x hx=>?_
   rw[hne x (h.ne x hx).1 (fun e=>hn (Vw.2 ⟨x,hx,e⟩))]
  refine ⟨⟨c',by simp[View.set]⟩,?_,?_,fun x hx=>?_,fun k hk=>?_,hold2,h.q0,fun x hx id e=>?_⟩
  ·rw[VB,V2]
   refine ⟨h.nd,by simp,fun a ha b hb e=>?_⟩
   simp at hb; subst hb; subst e; exact hn ha
  ·rw[e1]
   have ho:bt H1 ((v',2,aT (bz g p (bf g r) ++ [⟨y.aF,y.dot+1⟩])) :: jh g p A):=(h.own.emp (k:=1) (sz:=2)).left (by simpa using o1) l1
   refine hset (ho.perm (List.perm_append_comm (l₁:=[_]))) fun x hx=>?_
   rcases VE.1 hx with hx | hx
   ·obtain ⟨z,hz,rfl⟩:=Vw.1 hx
    exact hmapq z hz
   ·simp at hx; subst hx; exact hq1.2
  ·rcases VE.1 hx with hx | hx
   ·rw[hne x (h.ne x hx).1 (fun e=>hn (Vw.2 ⟨x,hx,e⟩))]; exact h.ne x hx
   ·simp at hx; subst hx; simp[hr]
  ·rw[VB,VE]
   by_cases e:k=r
   ·right; simp[e]
   ·left
    refine h.all k ?_
    have:=hne ((k:Int),.any,0) (by simp) (by simp only; omega)
    simp only[Vv] at this
    rw[← this]; exact hk
  ·rcases VE.1 hx with hx | hx
   ·exact h.new x hx id e
   ·simp at hx; subst hx; exact hv' id e
 | some v =>
  obtain ⟨A1,A2,b,rfl,hn1,hput⟩:=wY hg
  rw[hg] at l1
  rw[hput] at *
  have hnd:=h.nd
  rw[VB,VC,V2] at hnd
  have hn2:(r:Int) ∉ A2.map (·.1):=(V3.1 hnd.2.1).1
  have hx1:∀ x∈A1,x.1≠r:=fun x hx e=>hn1 (Vw.2 ⟨x,hx,e⟩)
  have hx2:∀ x∈A2,x.1≠r:=fun x hx e=>hn2 (Vw.2 ⟨x,hx,e⟩)
  have hm1:∀ x∈A1,x∈A1 ++ ((r:Int),v,b) :: A2:=fun x hx=>WC _ hx
  have hm2:∀ x∈A2,x∈A1 ++ ((r:Int),v,b) :: A2:=fun x hx=>WJ _ (Vt _ hx)
  have e1:jh g (p ++ [y]) (A1 ++ ((r:Int),v',b) :: A2)=jh g p A1 ++ (v',2,aT (bz g p (bf g r) ++ [⟨y.aF,y.dot+1⟩])) :: jh g p A2:=by
   simp only[jh,VB,VC,Vv,hr]
   congr 1
   ·refine Xh fun x hx=>?_
    rw[hne x (h.ne x (hm1 x hx)).1 (hx1 x hx)]
   ·congr 1
    refine Xh fun x hx=>?_
    rw[hne x (h.ne x (hm2 x hx)).1 (hx2 x hx)]
  have e0:jh g p (A1 ++ ((r:Int),v,b) :: A2)=jh g p A1 ++ (v,2,aT (bz g p (bf g r))) :: jh g p A2:=by
   simp only[jh,VB,VC,Vv]
  refine ⟨⟨c',by simp[View.set]⟩,by simpa using h.nd,?_,fun x hx=>?_,fun k hk=>?_,hold2,h.q0,fun x hx id e=>?_⟩
  ·rw[e1]
   have h0:=h.own
   rw[e0] at h0
   have ho:bt H1 ((v',2,aT (bz g p (bf g r) ++ [⟨y.aF,y.dot+1⟩])) :: (jh g p A1 ++ jh g p A2)):=(h0.perm VS).left o1 l1
   refine hset (ho.perm VS.symm) fun x hx=>?_
   rcases VE.1 hx with hx | hx
   ·obtain ⟨z,hz,rfl⟩:=Vw.1 hx
    exact hmapq z (hm1 z hz)
   ·rcases Vp.1 hx with rfl | hx
    ·exact hq1.2
    ·obtain ⟨z,hz,rfl⟩:=Vw.1 hx
     exact hmapq z (hm2 z hz)
  ·rcases VE.1 hx with hx | hx
   ·rw[hne x (h.ne x (hm1 x hx)).1 (hx1 x hx)]; exact h.ne x (hm1 x hx)
   ·rcases Vp.1 hx with rfl | hx
    ·simp[hr]
    ·rw[hne x (h.ne x (hm2 x hx)).1 (hx2 x hx)]; exact h.ne x (hm2 x hx)
  ·by_cases e:k=r
   ·subst e; simp
   ·have:=hne ((k:Int),.any,0) (by simp) (by simp only; omega)
    simp only[Vv] at this
    rw[this] at hk
    have:=h.all k hk
    simpa using this
  ·rcases VE.1 hx with hx | hx
   ·exact h.new x (hm1 x hx) id e
   ·rcases Vp.1 hx with rfl | hx
    ·exact hv' id e
    ·exact h.new x (hm2 x hx) id e
theorem tH.fresh {g:aw} {p:List aH} {H0 H:View} {q:Nat} {A:bU Int} (h:tH g p H0 H q A) {n:Nat} (hn:H n=.dead) (o:cZ):tH g p H0 (H.set n o) q A:=by
 obtain ⟨c,hq⟩:=h.mp
 have e1:q≠n:=by rintro rfl; rw[hn] at hq; simp at hq
 refine ⟨⟨c,by simp[View.set,e1,hq]⟩,h.nd,h.own.fresh hn,h.ne,h.all,fun id hid=>?_,h.q0,h.new⟩
 have e2:id≠n:=by rintro rfl; rw[h.old id hid] at hn; exact hid hn
 simp[View.set,e2,h.old id hid]
set_option maxHeartbeats 8000000 in
theorem Px (g:aw) (hf:g.dK) (l:List aH) (hl:∀ x∈l,cr g x) (hn:l.length≤10000) (u:V) (H:View) (ho:ba H u 2 (aT l)):aC Tryz.prog 63 [.agg (au g),u] H fun r H'=>∃ q A,r=.mp q∧tH g l H H' q A:=by
 refine aC.of mixed Cm ?_
 have hlen:cH u=some l.length:=by rw[ho.len,bJ]
 have hT:=hf.ay
 have hN:=hf.az
 simp (disch:=omega) only [↓wr,seval,wq,ah,ag,ak,aa,ab,af,ai,ae,zt,au,encS,hlen]
 intro q hq
 have h0:tH g [] H (H.set q (.map [] 0)) q []:=⟨⟨0,by simp[View.set,cx]⟩,by simp,⟨by simp[jh],by simp[jh]⟩,by simp,fun k hk=>absurd rfl hk,fun id hid=>by
  have:id≠q:=by rintro rfl; exact hid hq
  simp[View.set,this],hq,by simp⟩
 generalize H.set q (.map [] 0)=H1 at h0
 try simp (disch:=omega) only [↓wr,seval,wq,ah,ag,ak,aa,ab,af,ai,ae]
 refine aZ.up l.length (fun i T H'=>∃ A,tH g (l.take i) H H' q A∧T 2=.aN (au g) 0∧T 5=.mp q∧T 12=u∧T 13=gi l.length∧T 14=gi i) ⟨[],h0,rfl,rfl,rfl,rfl,rfl⟩ ?_
 clear h0 hq
 rintro i k T H' hk ⟨A,hM,t2,t5,t12,t13,t14⟩
 simp (disch:=omega) only [↓wr,seval,wq,ah,ag,ak,aa,ab,af,ai,ae,vt,t2,t5,t12,t13,t14]
 refine av.dec (fun hc=>?_) (fun hc=>?_)
 ·have hx:l[i]?=some (l[i]'(by omega)):=U9 (by omega)
  have hxm:=hl _ (Vi (show i < l.length by omega))
  have htk:l.take (i+1)=l.take i ++ [l[i]'(by omega)]:=by rw[Vx,hx]; rfl
  generalize l[i]'(by omega)=x at hx hxm htk
  have h1:=HR g hf x hxm
  cases hny:bA g x with
  | mk s okb =>
  have hsb:=rP hf hxm hny
  rw[hny] at h1
  have hr6:=eS hf hxm.1
  have hx2:=hxm.2
  obtain ⟨id,hu,hid⟩:=ho.sl (by rw[bJ]; omega)
  have hid':H' id=.arr 2 (aT l):=by rw[hM.old id (by rw[hid]; simp),hid]
  rw[bJ] at hu
  subst hu
  simp only[au,encS,bE] at h1
  simp (disch:=omega) only [↓wr,seval,wq,ah,ag,ak,aa,ab,af,ai,ae,t2,t5,t12,t13,t14,hid',qp hx]
  refine ⟨by omega,by rw[bJ]; omega,?_⟩
  intro q1 hq1
  rw[set_set]
  have hqq:(H'.set q1 (.arr 2 [[gi x.aF,gi x.dot]])) q1=.arr 2 [[gi x.aF,gi x.dot]]:=by simp[View.set]
  have hM2:=hM.fresh hq1 (.arr 2 [[gi x.aF,gi x.dot]])
  generalize H'.set q1 (.arr 2 [[gi x.aF,gi x.dot]])=H4 at hqq hM2
  clear hM hq1 hid'
  try simp (disch:=omega) only [↓wr,seval,wq,ah,ag,ak,aa,ab,af,ai,ae,t2,t5,hqq,au,encS]
  refine aD.pure h1 (by kernel_rfl) ?_
  cases okb with
  | false =>
   simp (disch:=omega) only [↓wr,seval,wq,ah,ag,ak,aa,ab,af,ai,ae,t2,t5,t12,t13,t14]
   exact aM hk (by omega) ⟨A,by rw[htk]; exact hM2.skip (by rw[hny]),t2,t5,t12,t13,rfl⟩
  | true =>
  have hh:=pI hf hxm hny
  obtain ⟨r1,r2⟩:=pD hh
  obtain ⟨r3,r4⟩:=G1 r1
  obtain ⟨r,hr⟩:∃ r:Nat,jT g s=r:=⟨(jT g s).toNat,by omega⟩
  rw[hr,Vv] at r4
  have h2:=P9 g hf s hsb
  rw[hr] at h2
  simp only[au,encS] at h2
  simp (disch:=omega) only [↓wr,seval,wq,ah,ag,ak,aa,ab,af,ai,ae,t2,t5,au,encS]
  refine aD.pure h2 (by kernel_rfl) ?_
  obtain ⟨c,hmq⟩:=hM2.mp
  simp (disch:=omega) only [↓wr,seval,wq,ah,ag,ak,aa,ab,af,ai,ae,t5]
  refine z7 (kt:=3) (et:=27) (z:=.emp 1) (by kernel_rfl) (by kernel_rfl) (kY .i64 Tryz.underlying3) (id:=q) (c:=c) (m:=A) (k:=(r:Int)) (by simp (disch:=omega) only [↓wr,seval,wq,ah,ag,ak,aa,ab,af,ai,ae]) (by simp (disch:=omega) only [↓wr,seval,wq,ah,ag,ak,aa,ab,af,ai,ae]) hmq ?_
  have hov:=hM2.val r
  have hqq1:∀ n o,H4 n=.dead→(H4.set n o) q1=.arr 2 [[gi x.aF,gi x.dot]]:=fun n o hn=>by
   have:q1≠n:=by rintro rfl; rw[hqq] at hn; simp at hn
   simp[View.set,this,hqq]
  try simp (disch:=omega) only [↓wr,seval,wq,ah,ag,ak,aa,ab,af,ai,ae,hqq]
  intro q2 hq2
  have hM3:=hM2.fresh hq2 (.arr 2 [[gi x.aF,gi (x.dot+1)]])
  have hov3:=hM3.val r
  have hel:bZ (H4.set q2 (.arr 2 [[gi x.aF,gi (x.dot+1)]])) (.sl q2 0 1 2)=some ([[gi x.aF,gi (x.dot+1)]],[q2]):=by simp[bZ,View.set]
  simp (disch:=omega) only [↓wr,seval,wq,ah,ag,ak,aa,ab,af,ai,ae,hel]
  have hml:=sq (g:=g) (l:=l.take i) (s:=bf g r)
  rw[VQ] at hml
  refine gS hov3 (by simp[aU]) (by unfold aJ; rw[bJ]; simp; omega) (by unfold aJ; rw[bJ]; simp; omega) ?_
  intro v' H6 o6 l6
  obtain ⟨c3,hmq3⟩:=hM3.mp
  have howq:owner ((getM A (r:Int)).getD (.emp 1))≠some q:=fun e=>by
   have:=(hov3.live e).1
   rw[hmq3] at this; simp at this
  have hmq6:H6 q=.map (cx (Value.int .i64) A) c3:=by
   rw[(l6 q (by rw[hmq3]; simp) howq).1,hmq3]
  simp (disch:=omega) only [↓wr,seval,wq,ah,ag,ak,aa,ab,af,ai,ae,t5]
  refine uY (kt:=3) (et:=27) (by kernel_rfl) (kY .i64 Tryz.underlying3) (id:=q) (c:=c3) (m:=A) (k:=(r:Int)) (v:=v') (by simp (disch:=omega) only [↓wr,seval,wq,ah,ag,ak,aa,ab,af,ai,ae]) (by simp (disch:=omega) only [↓wr,seval,wq,ah,ag,ak,aa,ab,af,ai,ae]) (by simp (disch:=omega) only [↓wr,seval,wq,ah,ag,ak,aa,ab,af,ai,ae]) hmq6 ?_
  intro c'
  simp (disch:=omega) only [↓wr,seval,wq,ah,ag,ak,aa,ab,af,ai,ae,t2,t5,t12,t13,t14]
  have hfin:=hM3.put (y:=x) (r:=r) (by rw[hny,r4]) (H1:=H6) (v':=v') (by
   have e:aT (bz g (l.take i) (bf g r) ++ [⟨x.aF,x.dot+1⟩])=aT (bz g (l.take i) (bf g r)) ++ [[gi x.aF,gi (x.dot+1)]]:=by simp[aT,bE]
   rw[e]; exact o6) l6 c3 c'
  exact aM hk (by omega) ⟨bN (r:Int) v' c3 A,by rw[htk]; exact hfin,t2,t5,t12,t13,rfl⟩
 ·rw[Vq (by omega)] at hM
  simp (disch:=omega) only [↓wr,seval,wq,ah,ag,ak,aa,ab,af,ai,ae,t5]
  exact ⟨q,A,rfl,hM⟩
theorem aD.still {P:Program} {f:FuncId} {vs:List V} {H:View} {K:V→View→Prop} {w:cD (H,K)} {Φ:V→View→Prop} (hc:aC P f vs H Φ) (hs:∀ r H',Φ r H'→∀ id,H id≠.dead→H' id=H id) (hk:∀ r H',Φ r H'→K r H'):aD P true f vs H K w:=by
 unfold aD
 simp only[if_true]
 exact (hc.mono fun r H' h=>⟨hs r H' h,hk r H' h⟩).LZ
theorem bt.join {H:View} {L M:List cz} (h:bt H L) (k:bt H M) (hd:∀ x∈L,∀ y∈M,∀ id,owner x.1=some id→owner y.1≠some id):bt H (L ++ M):=by
 refine ⟨fun x hx=>?_,?_⟩
 ·rcases VE.1 hx with hx | hx
  ·exact h.1 x hx
  ·exact k.1 x hx
 ·rw[List.filterMap_append,V2]
  refine ⟨h.2,k.2,fun a ha b hb e=>?_⟩
  obtain ⟨x,hx,hxa⟩:=Wm.1 ha
  obtain ⟨y,hy,hyb⟩:=Wm.1 hb
  subst e
  exact hd x hx y hy a hxa hyb
theorem bt.sub {H:View} {L M:List cz} (h:bt H L) (hs:M.Sublist L):bt H M :=
 ⟨fun x hx=>h.1 x (hs.subset hx),h.2.sublist (hs.filterMap _)⟩
theorem MW {l:List aH} (hs:cB l) (hn:l.length≤100000) (u:V) (H:View) (ho:ba H u 2 (aT l)):aC Tryz.prog 64 [u] H fun r H'=>H=H'∧ba H r 2 (aT l)∧(l≠[]→r=u):=by
 refine (KJ l hn u H ho).mono ?_
 rintro r H' ⟨k1,k2,k3⟩
 rw[LW hs] at k2
 have e:H'=H:=by
  funext id
  by_cases h:owner u=some id
  ·rw[(ho.live h).1,(k2.live (by rw[k3]; exact h)).1]
  ·exact k1 id h
 subst e
 refine ⟨rfl,k2,fun hne=>?_⟩
 have hp:0 < (aT l).length:=by rw[bJ]; exact Xg.2 hne
 obtain ⟨n,e1,_⟩:=ho.sl hp
 obtain ⟨m,e2,_⟩:=k2.sl hp
 rw[e1,e2] at k3
 simp only[owner,Vb] at k3
 rw[e1,e2,k3]
def rq (g:aw) (out:List aR) (M:bU (List UInt8)):Prop:=∀ l:List aH,(∀ x∈l,cr g x)→getM M (fX l)=if findD out l < 0 then none else some (gi (findD out l))
theorem Fy:∀ {a b:List aR},a.map aR.bh=b.map aR.bh→∀ k,findD a k=findD b k
 | [],[],_,_=>rfl
 | [],_ :: _,h,_=>by simp at h
 | _ :: _,[],h,_=>by simp at h
 | s :: a,t :: b,h,k=>by
  simp only[VC,Xl] at h
  rw[findD,findD,h.1,Fy h.2 k]
theorem BC:∀ (a:List aR) (s:aR) (k:List aH),findD (a ++ [s]) k=if 0≤findD a k then findD a k else if s.bh=k then (a.length:Int) else -1
 | [],s,k=>by by_cases e:s.bh=k <;> simp[findD,e]
 | t :: a,s,k=>by
  have ih:=BC a s k
  have h1:=sw a k
  rw[VL,findD,findD,ih]
  simp only[Vr]
  push_cast
  by_cases e:t.bh=k <;> by_cases e2:s.bh=k <;> by_cases h0:0≤findD a k <;> simp only[e,e2,h0,if_true,if_false] <;> (repeat' split) <;> omega
theorem rq.same {g:aw} {a b:List aR} {M:bU (List UInt8)} (h:rq g a M) (e:a.map aR.bh=b.map aR.bh):rq g b M:=fun l hl=>by
 rw[h l hl,Fy e]
theorem rq.put {g:aw} (hf:g.dK) {out:List aR} {M:bU (List UInt8)} (h:rq g out M) {k:List aH} (hk:∀ x∈k,cr g x) (hn:findD out k < 0) (c:Nat):rq g (out ++ [⟨k,[]⟩]) (bN (fX k) (gi out.length) c M):=fun l hl=>by
 have h1:=BC out ⟨k,[]⟩ l
 have h2:=sw out l
 rw[pB]
 by_cases e:l=k
 ·subst e
  rw[Va (by omega),Vd rfl] at h1
  rw[h1,WE,Vd rfl,Va (by omega)]
 ·have e2:(fX l == fX k)=false:=beq_eq_false_iff_ne.2 fun h=>e (Ih hf hl hk h)
  rw[e2,h l hl]
  simp only[VA,if_false]
  by_cases h0:0≤findD out l
  ·rw[Vd h0] at h1
   rw[h1]
  ·rw[Va h0,Va (fun h=>e h.symm)] at h1
   rw[h1,Vd (by omega),Vd (by omega)]
theorem Gj {A:bU Int} {k:Nat} {v:V} (hn:(A.map (·.1)).Nodup) (h:getM A (k:Int)=some v):∃ b,(A.filter (fun x=>decide (((k:Nat):Int)≤x.1))).Perm (((k:Int),v,b) :: A.filter (fun x=>decide (((k+1:Nat):Int)≤x.1))):=by
 obtain ⟨A1,A2,b,rfl,hn1,_⟩:=wY h
 rw[VB,VC,V2] at hn
 have hn2:(k:Int) ∉ A2.map (·.1):=(V3.1 hn.2.1).1
 have e:∀ B:bU Int,(k:Int) ∉ B.map (·.1)→B.filter (fun x=>decide (((k:Nat):Int)≤x.1))=B.filter (fun x=>decide (((k+1:Nat):Int)≤x.1)):=fun B hB=>List.filter_congr fun x hx=>by
  have:x.1≠(k:Int):=fun e=>hB (Vw.2 ⟨x,hx,e⟩)
  rw[decide_eq_decide]; omega
 refine ⟨b,?_⟩
 rw[WB,WB,Xb,Xb,Vd (by simp),Va (by simp only[Vo]; push_cast; omega),e A1 hn1,e A2 hn2]
 exact VS
theorem TB {α:Type} {e u r:α} {S X Y:List α} (h:X.Perm (r :: Y)):(e :: u :: (S ++ X)).Perm (u :: ((S ++ [r,e]) ++ Y)):=by
 refine (List.Perm.swap _ _ _).trans (.cons _ ?_)
 rw[VV]
 refine ((h.append_left S).cons e).trans ?_
 exact VS.symm.trans ((List.Perm.swap _ _ _).append_left S)
theorem FV {α:Type} {u k e:α} {S R:List α} : (u :: (S ++ k :: e :: R)).Perm (e :: u :: (S ++ k :: R)):=by
 have h:(S ++ k :: e :: R).Perm (e :: (S ++ k :: R)):=by
  have:=VS (a:=e) (l₁:=S ++ [k]) (l₂:=R)
  simpa using this
 exact (h.cons u).trans (List.Perm.swap _ _ _)
def vn:SC :=
 .seq (ao [bc 49 .lss 48 47]) <|
 .seq (.cond (.tmp 49) (.skip) (.exit 2)) <|
 .seq (.block 3 (.seq (ao [aj 50 48,aj 9 50]) <|
 .seq (ao [aj 51 8,aj 52 9,((some 53),.op (.old (.lookup 98 (.tmp 51) (.tmp 52) false) 27)),bC 54 64 [53],aj 10 54]) <|
 .seq (.seq (ao [aj 55 10,aX 56 55,aQ 57 .eql 56 0]) <|
 .cond (.tmp 57) (.exit 3) (.skip)) <|
 .seq (ao [aj 58 9,aj 11 58]) <|
 .seq (.seq (ao [aj 59 9,aB 60 0 1,ax 61 60,aX 62 61,bc 63 .geq 59 62]) <|
 .cond (.tmp 63) (ao [aB 64 0 1,ax 65 64,aX 66 65,aQ 67 .sub 66 1,aj 68 9,bc 69 .sub 67 68,aj 11 69]) (.skip)) <|
 .seq (ao [aj 71 6,aj 72 10,bC 73 62 [72],((some 74),.op (.old (.lookup 97 (.tmp 71) (.tmp 73) true) 30)),aj 70 74,fK 75 0 70,fK 76 1 70,aj 12 75,aj 13 76]) <|
 .seq (.seq (ao [aj 77 13,dd 78 77]) <|
 .cond (.tmp 78) (.seq (ao [aj 79 5,aX 80 79,aj 12 80]) <|
 .seq (ao [aj 81 6,aj 82 10,bC 83 62 [82],aj 84 12,(none,.op (.old (.mapUpdate 97 (.tmp 81) (.tmp 83) (.tmp 84)) 0))]) <|
 ao [aj 85 5,aj 86 10,((some 87),.op (.build [(.emp 1),(.emp 1)] [(0,1,(.tmp 86))])),((some 88),.op (.cg 1 2 [(.emp 1),(.emp 1)] [(0,(.tmp 87))])),((some 89),.op (.app 2 48 (.tmp 85) (.tmp 88))),aj 5 89]) (.skip)) <|
 ao [aj 90 5,aj 91 7,aj 92 5,aj 93 7,aP 94 2 92 93,aB 95 1 94,ax 96 95,aj 97 11,aj 98 12,((some 99),.op (.build [(.val (.int .i64 0)),(.val (.int .i64 0))] [(0,1,(.tmp 97)),(1,1,(.tmp 98))])),((some 100),.op (.cg 1 2 [(.val (.int .i64 0)),(.val (.int .i64 0))] [(0,(.tmp 99))])),((some 101),.op (.app 2 16 (.tmp 96) (.tmp 100))),aP 102 2 90 91,aB 103 1 102,(none,.op (.store 1 (.tmp 103) (.tmp 101)))])) <|
 ao [aQ 104 .add 48 1,aj 48 104]
def vd:SC :=
 .seq (.seq (ao [aj 26 7,aj 27 5,aX 28 27,bc 29 .lss 26 28]) <|
 .cond (.tmp 29) (.skip) (.exit 0)) <|
 .seq (.block 1 (.seq (.region true [⟨none,[bp 32 4 1,bp 33 4 1,aj 34 5,aj 35 7,aP 36 2 34 35,aB 37 0 36,ax 38 37,bC 39 56 [33,38],bC 40 63 [32,39],aj 8 40]⟩]) <|
 .seq (.seq (ao [aB 41 0 1,ax 42 41,aX 43 42,aB 44 1 1,ax 45 44,aX 46 45,bc 47 .add 43 46,bj 48 0]) <|
 .block 2 (.loop vn)) <|
 .seq (ao [aj 105 5,aX 106 105,aQ 107 .gtr 106 300]) <|
 .cond (.tmp 107) (.seq (ao [((some 2),.op (.bL (.val (.emp 1)))),bj 3 5]) <|
 .ret) (.skip))) <|
 ao [aj 30 7,aQ 31 .add 30 1,aj 7 31]
def zE:SF:=⟨.seq (ao [cL 1 0,((some 2),.op (.bL (.val (.emp 1)))),bj 3 0]) <|
 .seq (.seq (ao [bp 14 4 1,bC 15 61 [14],dd 16 15]) <|
 .cond (.tmp 16) (.seq (ao [((some 2),.op (.bL (.val (.emp 1)))),bj 3 1]) <|
 .ret) (.skip)) <|
 .seq (ao [((some 17),.op (.build [(.val (.int .i64 0)),(.val (.int .i64 0))] [(0,1,(.val (.val (.int .i64 (-1)))))])),((some 18),.op (.cg 1 2 [(.val (.int .i64 0)),(.val (.int .i64 0))] [(0,(.tmp 17))])),aj 4 18]) <|
 .seq (ao [aj 19 4,((some 20),.op (.build [(.emp 1),(.emp 1)] [(0,1,(.tmp 19))])),((some 21),.op (.cg 1 2 [(.emp 1),(.emp 1)] [(0,(.tmp 20))])),aj 5 21]) <|
 .seq (ao [((some 22),.op (.nM)),aj 23 4,bC 24 62 [23],(none,.op (.old (.insert 97 (.tmp 22) (.tmp 24) (.const (.int .i64 0))) 0)),aj 25 22,aj 6 25]) <|
 .seq (.seq (ao [bj 7 0]) <|
 .block 0 (.loop vd)) <|
 .seq (ao [aj 108 5,aj 2 108,bj 3 0]) <|
 .ret,
 [.tmp 2,.tmp 3],109⟩
theorem BD:aV Tryz.prog 24 [1]=some zE:=by kernel_rfl
def U5 (g:aw) (m:Nat) (T:Env) (H:View):Prop:=∃ (at_:Nat) (u:V) (S:List oW) (out:List aR) (q c:Nat) (M:bU (List UInt8)),m+at_=302∧out=S.map (fun x=>x.2.2)∧bt H ((u,2,eT S) :: lT S)∧dU g at_ 0 out∧1≤out.length∧out.length≤300∧fF g m at_ out=cG g∧at_≤out.length ∧
 H q=.map (cx ij M) c∧rq g out M∧T 1=.aN (au g) 0∧T 5=u∧T 6=.mp q∧T 7=gi at_
set_option maxHeartbeats 32000000 in
theorem MU (g:aw) (hg:g.Ok) (hsm:g.Small):cR Tryz.prog 24 [.agg (au g)] (.bI [bm (cG g).1,gi (cG g).2]):=by
 refine cR.of (dZ g) ?_
 have hIs:=Nz g hg hsm
 refine aC.of mixed BD ?_
 simp only[au,encS] at hIs
 simp (disch:=omega) only [↓wr,seval,wq,ah,ag,ak,aa,ab,af,ai,ae,zE,au,encS]
 refine aD.pure hIs (by kernel_rfl) ?_
 simp (disch:=omega) only [↓wr,seval,wq,ah,ag,ak,aa,ab,af,ai,ae]
 refine av.split (fun hr=>?_) (fun hr=>?_)
 rotate_left
 ·simp (disch:=omega) only [↓wr,seval,wq,ah,ag,ak,aa,ab,af,ai,ae]
  intro h' _
  have e:cG g=([],1):=by unfold cG; rw[Va (by rw[hr]; simp)]
  rw[e]
  exact j9 (.emp _)
 have hf:g.dK:=oo hr
 have e0:fF g 302 0 dX=cG g:=by unfold cG; rw[Vd hr]
 have hT:=hf.ay; have hN:=hf.az
 simp (disch:=omega) only [↓wr,seval,wq,ah,ag,ak,aa,ab,af,ai,ae]
 intro q1 q2 hq2 q3 hq3
 have hst1:cr g ⟨-1,0⟩:=(na (g:=g)).bh ⟨[⟨-1,0⟩],[]⟩ (by simp[dX]) |>.2.2 _ (by simp)
 have o0:bt (((View.set (fun _=>cZ.dead) q1 (.arr 2 [[gi (-1),gi 0]])).set q2 (.arr 2 [[.sl q1 0 1 2,.emp 1]]))) ((.sl q2 0 1 2,2,eT [(.sl q1 0 1 2,.emp 1,⟨[⟨-1,0⟩],[]⟩)]) :: lT [(.sl q1 0 1 2,.emp 1,⟨[⟨-1,0⟩],[]⟩)]) :=
  (((bt.nil.emp (k:=1) (sz:=2)).new (n:=q1) rfl 2 [[gi (-1),gi 0]]).new (by simpa [View.set] using hq2) 2 [[.sl q1 0 1 2,.emp 1]])
 have o1:=o0.fresh (n:=q3) (by simpa [View.set] using hq3) (o:=.map [] 0)
 have hm3:((((View.set (fun _=>cZ.dead) q1 (.arr 2 [[gi (-1),gi 0]])).set q2 (.arr 2 [[.sl q1 0 1 2,.emp 1]])).set q3 (.map [] 0))) q3=.map (cx ij []) 0:=by simp[View.set,cx]
 generalize (((View.set (fun _=>cZ.dead) q1 (.arr 2 [[gi (-1),gi 0]])).set q2 (.arr 2 [[.sl q1 0 1 2,.emp 1]])).set q3 (.map [] 0))=H3 at o1 hm3 ⊢
 clear o0 hq2 hq3
 have ok1:ba H3 (.sl q1 0 1 2) 2 (aT [⟨-1,0⟩]):=o1.1 _ (Vt _ (Xk ..))
 refine aD.dP ((Ix g hf [⟨-1,0⟩] (fun x hx=>by simp at hx; subst hx; exact hst1) (by simp) (.sl q1 0 1 2) H3 ok1).mono ?_)
 rintro r H4 ⟨rfl,k4⟩
 have hm4:H4 q3=.map (cx ij []) 0:=by rw[k4 q3 (by rw[hm3]; simp),hm3]
 simp (disch:=omega) only [↓wr,seval,wq,ah,ag,ak,aa,ab,af,ai,ae,SZ]
 refine uY (kt:=9) (et:=3) (by kernel_rfl) (Iy Tryz.underlying9) (id:=q3) (c:=0) (m:=[]) (k:=fX [⟨-1,0⟩]) (v:=gi 0) (by simp (disch:=omega) only [↓wr,seval,wq,ah,ag,ak,aa,ab,af,ai,ae]) (by simp (disch:=omega) only [↓wr,seval,wq,ah,ag,ak,aa,ab,af,ai,ae]) rfl hm4 ?_
 intro c'
 have hN0:rq g dX (bN (fX [⟨-1,0⟩]) (gi 0) 0 []):=rq.put (out:=[]) hf (fun l _=>by simp[getM,findD]) (fun x hx=>by simp at hx; subst hx; exact hst1) (by simp[findD]) 0
 have o2:=(o1.stay k4).vr hm4 (o:=.map (cx ij (bN (fX [⟨-1,0⟩]) (gi 0) 0 [])) c')
 have hm5:(H4.set q3 (.map (cx ij (bN (fX [⟨-1,0⟩]) (gi 0) 0 [])) c')) q3=.map (cx ij (bN (fX [⟨-1,0⟩]) (gi 0) 0 [])) c':=by simp[View.set]
 generalize H4.set q3 (.map (cx ij (bN (fX [⟨-1,0⟩]) (gi 0) 0 [])) c')=H5 at o2 hm5 ⊢
 clear hm4 hm3 k4 ok1 o1
 clear H4 H3
 simp (disch:=omega) only [↓wr,seval,wq,ah,ag,ak,aa,ab,af,ai,ae]
 refine aZ.intro (U5 g) 302 ⟨0,_,_,dX,q3,c',_,rfl,rfl,o2,na,Vj _,by simp[dX],e0,by omega,hm5,hN0,rfl,rfl,rfl,rfl⟩ ?_
 clear o2 hm5 hN0
 clear H5 q1 q2 q3 c'
 rintro m T H ⟨at_,u,S,out,q,c,M,hm,rfl,ho,hI,h1,h300,hl,hle,hmq,hNM,t1,t5,t6,t7⟩
 have hlu:cH u=some S.length:=by rw[ho.head.len,c4]
 simp only[Vg] at h1 h300 hle
 simp (disch:=omega) only [↓wr,seval,wq,ah,ag,ak,aa,ab,af,ai,ae,vd,t1,t5,t6,t7,hlu]
 refine av.dec (fun hc=>?_) (fun hc=>?_)
 rotate_left
 ·simp (disch:=omega) only [↓wr,seval,wq,ah,ag,ak,aa,ab,af,ai,ae,t5]
  have e1:cG g=(S.map (fun x=>x.2.2),0):=by
   rw[← hl]
   cases m with
   | zero=>rfl
   | succ m=>rw[fF,Va (by simp; omega)]
  rw[e1]
  rintro h' rfl
  exact j9 (DJ ho.head fun x hx=>⟨ho.1 _ (Vt _ (nh hx).1),ho.1 _ (Vt _ (nh hx).2)⟩)
 obtain ⟨m,rfl⟩:∃ q,m=q+1:=⟨m - 1,by omega⟩
 have hat:at_ < S.length:=by omega
 obtain ⟨S1,x,S2,rfl,hS1,hx⟩:=mO hat
 have hxm:x∈S1 ++ x :: S2:=by simp
 obtain ⟨hk1,hk2,hk3⟩:=hI.bh x.2.2 (List.mem_map_of_mem hxm)
 have hkl:=hX hf hk1 hk3
 have hh:ba H u 2 (eT (S1 ++ x :: S2)):=ho.head
 obtain ⟨id,hu,hid⟩:=hh.sl (by rw[c4]; omega)
 have hgx:(eT (S1 ++ x :: S2)).getD at_ []=[x.1,x.2.1]:=by simp[eT,U8,← hS1]
 have hcl:cw g ((List.map (fun x=>x.2.2) (S1 ++ x :: S2)).getD at_ bH).bh=cw g x.2.2.bh:=by
  rw[U8,Vc,hx]; rfl
 have hrow:=fun n hn=>dU.row (hI.oA hf (show at_ < ((S1 ++ x :: S2).map fun x=>x.2.2).length by simpa using hat)).1 (hI.oA hf (show at_ < ((S1 ++ x :: S2).map fun x=>x.2.2).length by simpa using hat)).2 hI n hn
 rw[fF,Vd (by simpa using hat),AM] at hl
 rw[hcl] at hl hrow
 have hcs:=jU g x.2.2.bh
 have hch:∀ y∈cw g x.2.2.bh,cr g y:=fun y hy=>((cY hf hk3).1 hy).has hk3
 rw[c4] at hu
 simp (disch:=omega) only [↓wr,seval,wq,ah,ag,ak,aa,ab,af,ai,ae,t1,t5,t7,hu,hid,hgx,au,encS]
 refine ⟨by omega,by rw[c4]; omega,?_⟩
 refine aD.JA (ID g hf x.2.2.bh hk3 (by omega) x.1 H (ho.1 _ (Vt _ (nh hxm).1))) ?_
 intro r H2 or fr
 simp (disch:=omega) only [↓wr,seval,wq,ah,ag,ak,aa,ab,af,ai,ae,au,encS]
 have hcl':=hX hf hcs hch
 refine aD.still (Px g hf (cw g x.2.2.bh) hch (by omega) r H2 or) (fun r H' h=>by obtain ⟨q,A,_,h⟩:=h; exact h.old) ?_
 rintro r2 H6 ⟨q',A,rfl,hMv⟩
 have hfr:∀ id,H id≠.dead→H6 id=H id:=fun id hid=>by rw[hMv.old id (by rw[(fr id hid).1]; exact hid),(fr id hid).1]
 have hmq6:H6 q=.map (cx ij M) c:=by rw[hfr q (by rw[hmq]; simp),hmq]
 have o6:bt H6 ((u,2,eT (S1 ++ x :: S2)) :: (lT (S1 ++ x :: S2) ++ jh g (cw g x.2.2.bh) (A.filter fun y=>decide (((0:Nat):Int)≤y.1)))):=by
  have hA:A.filter (fun y=>decide (((0:Nat):Int)≤y.1))=A:=List.filter_eq_self.2 fun y hy=>by simpa using (hMv.ne y hy).1
  rw[hA]
  refine (ho.stay hfr).join (M:=jh g (cw g x.2.2.bh) A) hMv.own fun a ha b hb id h1 h2=>?_
  obtain ⟨y,hy,rfl⟩:=Vw.1 hb
  have h3:=hMv.new y hy id h2
  have h4:=ho.live ha h1
  rw[(fr id h4).1] at h3
  exact h4 h3
 obtain ⟨cA,hmA⟩:=hMv.mp
 have hAnd:=hMv.nd
 have hqq:q'≠q:=by
  rintro rfl
  have:=hMv.q0
  rw[(fr _ (by rw[hmq]; simp)).1,hmq] at this; simp at this
 have hAval:∀ k:Nat,(getM A (k:Int)=none→bz g (cw g x.2.2.bh) (bf g k)=[]):=fun k h=>Wc fun hne=>getM_none.1 h (hMv.all k hne)
 clear or fr hid hgx hcl hx hfr hMv hmq
 generalize cw g x.2.2.bh=cl at *
 generalize hout0:(S1 ++ x :: S2).map (fun x=>x.2.2)=out0 at *
 have hol:out0.length=(S1 ++ x :: S2).length:=by rw[← hout0]; simp
 simp (disch:=omega) only [↓wr,seval,wq,ah,ag,ak,aa,ab,af,ai,ae,t1,t5,t6,t7,au,encS]
 refine aZ.up (g.ay.length+g.az.length) (fun i T H'=>∃ (u:V) (S:List oW) (M:bU (List UInt8)) (c:Nat),S.map (fun x=>x.2.2)=(List.range i).foldl (df g cl at_) out0∧bt H' ((u,2,eT S) :: (lT S ++ jh g cl (A.filter fun y=>decide (((i:Nat):Int)≤y.1)))) ∧
  H' q'=.map (cx (Value.int .i64) A) cA∧H' q=.map (cx ij M) c∧rq g (S.map fun x=>x.2.2) M∧T 1=.aN (au g) 0∧T 5=u∧T 6=.mp q∧T 7=gi at_∧T 8=.mp q'∧T 47=gi ((g.ay.length+g.az.length:Nat):Int)∧T 48=gi i)
  ⟨u,_,M,c,hout0,o6,hmA,hmq6,by rw[hout0]; exact hNM,t1,by rw[← hu]; exact t5,t6,t7,rfl,?_,rfl⟩ ?_
 ·push_cast; rfl
 rw[← hol] at h1 h300 hle hat
 clear o6 ho hh hu t1 t5 t6 t7 hlu hout0 hxm hol hc hk1 hk2 hk3 hkl hS1 hmA hmq6 hNM
 clear u H H2 H6 T id S1 x S2 M c r
 rintro i k T H' hk ⟨u,S,M,c,hA,ho,hmA,hmq,hNM,t1,t5,t6,t7,t8,t47,t48⟩
 obtain ⟨iI,il1,il2⟩:=hrow i (by omega)
 rw[← hA] at iI il1 il2
 rw[Vg] at il1 il2
 have hlu:cH u=some S.length:=by rw[ho.head.len,c4]
 simp (disch:=omega) only [↓wr,seval,wq,ah,ag,ak,aa,ab,af,ai,ae,vn,t1,t5,t6,t7,t8,t47,t48]
 refine av.dec (fun hc=>?_) (fun hc=>?_)
 rotate_left
 ·have hi:i=g.ay.length+g.az.length:=by omega
  subst hi
  rw[← hA] at hl
  simp (disch:=omega) only [↓wr,seval,wq,ah,ag,ak,aa,ab,af,ai,ae,t1,t5,t6,t7,hlu]
  refine av.dec (fun h3=>?_) (fun h3=>?_)
  ·simp (disch:=omega) only [↓wr,seval,wq,ah,ag,ak,aa,ab,af,ai,ae]
   intro h' _
   rw[Vd (by rw[Vg]; omega)] at hl
   rw[← hl]
   exact j9 (.emp _)
  ·simp (disch:=omega) only [↓wr,seval,wq,ah,ag,ak,aa,ab,af,ai,ae,t1,t5,t6,t7]
   rw[Va (by rw[Vg]; omega)] at hl
   exact ⟨m,by omega,at_+1,u,S,_,q,c,M,by omega,rfl,ho.sub (List.Sublist.cons_cons _ (List.sublist_append_left _ _)),iI.next,by rw[Vg]; omega,by rw[Vg]; omega,hl,by rw[Vg]; omega,hmq,hNM,t1,t5,t6,rfl⟩
 have hcN:i < g.ay.length+g.az.length:=by omega
 have hsb:=C5 hf hcN
 have hstep:(List.range (i+1)).foldl (df g cl at_) out0=df g cl at_ (S.map fun x=>x.2.2) i:=by rw[V0,VR,← hA]; rfl
 have hval:ba H' ((getM A (i:Int)).getD (.emp 1)) 2 (aT (bz g cl (bf g i))):=by
  cases hg:getM A (i:Int) with
  | none=>rw[hAval i hg]; exact .nil
  | some v =>
   obtain ⟨b,hp⟩:=Gj hAnd hg
   refine ho.1 (v,2,aT (bz g cl (bf g i))) (Vt _ (WJ _ (Vw.2 ⟨((i:Int),v,b),hp.mem_iff.2 (by simp),?_⟩)))
   simp
 have hsub:(jh g cl (A.filter fun y=>decide (((i+1:Nat):Int)≤y.1))).Sublist (jh g cl (A.filter fun y=>decide (((i:Nat):Int)≤y.1))):=by
  have:A.filter (fun y=>decide (((i+1:Nat):Int)≤y.1))=(A.filter (fun y=>decide (((i:Nat):Int)≤y.1))).filter (fun y=>decide (((i+1:Nat):Int)≤y.1)):=by
   rw[List.filter_filter]
   refine List.filter_congr fun y _=>?_
   rw[← Bool.decide_and,decide_eq_decide]; omega
  rw[this]
  exact (List.filter_sublist).map _
 simp (disch:=omega) only [↓wr,seval,wq,ah,ag,ak,aa,ab,af,ai,ae,t8,t48]
 refine z7 (kt:=3) (et:=27) (z:=.emp 1) (by kernel_rfl) (by kernel_rfl) (kY .i64 Tryz.underlying3) (id:=q') (c:=cA) (m:=A) (k:=(i:Int)) (by simp (disch:=omega) only [↓wr,seval,wq,ah,ag,ak,aa,ab,af,ai,ae]) (by simp (disch:=omega) only [↓wr,seval,wq,ah,ag,ak,aa,ab,af,ai,ae]) hmA ?_
 simp (disch:=omega) only [↓wr,seval,wq,ah,ag,ak,aa,ab,af,ai,ae]
 refine aD.dP ((MW (E7 (bf g i) hcs) (by have:=sq (g:=g) (l:=cl) (s:=bf g i); omega) _ H' hval).mono ?_)
 rintro r _ ⟨rfl,or,hreq⟩
 have hml:=sq (g:=g) (l:=cl) (s:=bf g i)
 have hmh:=HA (s:=bf g i) hch
 have hl9:cH r=some (bz g cl (bf g i)).length:=by rw[or.len,bJ]
 simp (disch:=omega) only [↓wr,seval,wq,ah,ag,ak,aa,ab,af,ai,ae,hl9]
 refine av.eq (fun he=>?_) (fun he=>?_)
 ·have hnil:bz g cl (bf g i)=[]:=Ws.1 (by omega)
  simp (disch:=omega) only [↓wr,seval,wq,ah,ag,ak,aa,ab,af,ai,ae,t1,t5,t6,t7,t8,t47,t48]
  exact aM hk (by omega) ⟨u,S,M,c,by rw[hstep,df,Vd hnil],ho.sub (List.Sublist.cons_cons _ (hsub.append_left _)),hmA,hmq,hNM,t1,t5,t6,t7,t8,t47,rfl⟩
 have hne:bz g cl (bf g i)≠[]:=fun e=>he (by rw[e]; rfl)
 have hgs:∃ v,getM A (i:Int)=some v:=by
  cases hg:getM A (i:Int) with
  | none=>exact absurd (hAval i hg) hne
  | some v=>exact ⟨v,rfl⟩
 obtain ⟨v,hg⟩:=hgs
 have hrv:=hreq hne
 rw[hg] at hrv
 simp only[Vs] at hrv
 obtain ⟨b,hperm⟩:=Gj hAnd hg
 have hperm2:(jh g cl (A.filter fun y=>decide (((i:Nat):Int)≤y.1))).Perm ((r,2,aT (bz g cl (bf g i))) :: jh g cl (A.filter fun y=>decide (((i+1:Nat):Int)≤y.1))):=by
  have:=hperm.map (fun x:Int × V × Nat=>((x.2.1,2,aT (bz g cl (bf g x.1.toNat))):cz))
  simp only[VC,Vv] at this
  rw[hrv]; exact this
 have hfl:=xe (S.map fun x=>x.2.2) (bz g cl (bf g i))
 have hfg:=sw (S.map fun x=>x.2.2) (bz g cl (bf g i))
 rw[Vg] at hfl
 have hNk:=hNM (bz g cl (bf g i)) hmh
 have hat2:at_ < S.length:=by omega
 obtain ⟨S1,x,S2,hSs,hS1,hx⟩:=mO hat2
 have hxe:x.2.2.bk.length≤40:=(iI.bk at_ x.2.2 (by rw[Vc,hx]; rfl)).1
 have hgx:∀ B,(eT (S1 ++ x :: B)).getD at_ []=[x.1,x.2.1]:=fun B=>by simp[eT,U8,← hS1]
 have hput:∀ (B:List oW) (c:dx),((S1 ++ x :: B).map fun x=>x.2.2).modify at_ (fun s=>(⟨s.bh,s.bk ++ [c]⟩:aR))=(S1 ++ (x.1,x.2.1,(⟨x.2.2.bh,x.2.2.bk ++ [c]⟩:aR)) :: B).map fun x=>x.2.2:=fun B c=>by
  rw[VB,VC,← hS1,← Vg (f:=fun x:oW=>x.2.2),B3,VB,VC]
 simp (disch:=omega) only [↓wr,seval,wq,ah,ag,ak,aa,ab,af,ai,ae,t1,t5,t6,t7,t8,au,encS]
 refine av.dec (fun hge=>?_) (fun hge=>?_)
 simp (disch:=omega) only [↓wr,seval,wq,ah,ag,ak,aa,ab,af,ai,ae,t1,t5,t6,t7,t8,au,encS]
 have hs:bf g i=(g.ay.length:Int) - 1 - i:=by unfold bf; rw[Va (by omega)]; omega
 generalize (g.ay.length:Int) - 1 - (i:Int)=sv at hs ⊢
 rotate_left
 simp (disch:=omega) only [↓wr,seval,wq,ah,ag,ak,aa,ab,af,ai,ae,t1,t5,t6,t7,t8,au,encS]
 have hs:bf g i=(i:Int):=by unfold bf; rw[Vd (by omega)]
 generalize ((i:Nat):Int)=sv at hs ⊢
 all_goals (
  refine aD.dP ((Ix g hf (bz g cl (bf g i)) hmh (by omega) r H' or).mono ?_)
  rintro rk H3 ⟨rfl,k3⟩
  have hmq3:H3 q=.map (cx ij M) c:=by rw[k3 q (by rw[hmq]; simp),hmq]
  have hmA3:H3 q'=.map (cx (Value.int .i64) A) cA:=by rw[k3 q' (by rw[hmA]; simp),hmA]
  have o3:=ho.stay k3
  have or3:ba H3 r 2 (aT (bz g cl (bf g i))):=or.keep fun id hid=>k3 id (by rw[(or.live hid).1]; simp)
  simp (disch:=omega) only [↓wr,seval,wq,ah,ag,ak,aa,ab,af,ai,ae,t6]
  refine Q1 (kt:=9) (et:=3) (z:=gi 0) (by kernel_rfl) (by kernel_rfl) (Iy Tryz.underlying9) (id:=q) (c:=c) (m:=M) (k:=fX (bz g cl (bf g i))) (by simp (disch:=omega) only [↓wr,seval,wq,ah,ag,ak,aa,ab,af,ai,ae]) (by simp (disch:=omega) only [↓wr,seval,wq,ah,ag,ak,aa,ab,af,ai,ae]) hmq3 ?_
  by_cases hneg:findD (S.map fun x=>x.2.2) (bz g cl (bf g i)) < 0
  rw[Vd hneg] at hNk
  rw[hNk]
  simp only[Option.getD_none,Option.isSome_none]
  simp (disch:=omega) only [↓wr,seval,wq,ah,ag,ak,aa,ab,af,ai,ae,t1,t5,t6,t7,t8,hlu]
  refine aD.dP ((Ix g hf (bz g cl (bf g i)) hmh (by omega) r H3 or3).mono ?_)
  rintro rk2 H4 ⟨rfl,k4⟩
  have hmq4:H4 q=.map (cx ij M) c:=by rw[k4 q (by rw[hmq3]; simp),hmq3]
  have hmA4:H4 q'=.map (cx (Value.int .i64) A) cA:=by rw[k4 q' (by rw[hmA3]; simp),hmA3]
  have o4:=o3.stay k4
  simp (disch:=omega) only [↓wr,seval,wq,ah,ag,ak,aa,ab,af,ai,ae,t6]
  refine uY (kt:=9) (et:=3) (by kernel_rfl) (Iy Tryz.underlying9) (id:=q) (c:=c) (m:=M) (k:=fX (bz g cl (bf g i))) (v:=gi S.length) (by simp (disch:=omega) only [↓wr,seval,wq,ah,ag,ak,aa,ab,af,ai,ae]) (by simp (disch:=omega) only [↓wr,seval,wq,ah,ag,ak,aa,ab,af,ai,ae]) (by simp (disch:=omega) only [↓wr,seval,wq,ah,ag,ak,aa,ab,af,ai,ae]) hmq4 ?_
  intro c'
  have hN2:rq g ((S1 ++ x :: (S2 ++ [(r,.emp 1,(⟨bz g cl (bf g i),[]⟩:aR))])).map fun x=>x.2.2) (bN (fX (bz g cl (bf g i))) (gi S.length) c M):=by
   have:=rq.put hf hNM hmh hneg c
   rw[Vg] at this
   refine this.same ?_
   rw[hSs]; simp
  have hmq5:(H4.set q (.map (cx ij (bN (fX (bz g cl (bf g i))) (gi S.length) c M)) c')) q=.map (cx ij (bN (fX (bz g cl (bf g i))) (gi S.length) c M)) c':=by simp[View.set]
  have hmA5:(H4.set q (.map (cx ij (bN (fX (bz g cl (bf g i))) (gi S.length) c M)) c')) q'=.map (cx (Value.int .i64) A) cA:=by
   simp only[View.set]; rw[Va hqq]; exact hmA4
  have o5:=o4.vr hmq4 (o:=.map (cx ij (bN (fX (bz g cl (bf g i))) (gi S.length) c M)) c')
  generalize H4.set q (.map (cx ij (bN (fX (bz g cl (bf g i))) (gi S.length) c M)) c')=H5 at hmq5 hmA5 o5 ⊢
  clear hmq4 hmA4 o4 k4
  generalize bN (fX (bz g cl (bf g i))) (gi S.length) c M=M2 at hN2 hmq5
  simp (disch:=omega) only [↓wr,seval,wq,ah,ag,ak,aa,ab,af,ai,ae,t1,t5,t6,t7,t8,or.cells,or.gR]
  intro q5 hq5
  simp (disch:=omega) only [↓wr,seval,wq,ah,ag,ak,aa,ab,af,ai,ae,bV]
  have hnq:∀ b,H5 b≠.dead→b≠q5:=fun b hb e=>hb (by rw[e]; exact hq5)
  refine cn (o5.fresh hq5) (by simp[or.gR,zN]) (by unfold aJ; rw[c4]; simp; omega) (by unfold aJ; rw[c4]; simp; omega) ?_
  intro u2 H10 o11 l11
  have hmq10:=l11.map (o5.fresh (o:=.arr 2 [[r,.emp 1]]) hq5).head (b:=q) (c:=c') (es:=cx ij M2) (by simp only[View.set]; rw[Va (hnq q (by rw[hmq5]; simp)),hmq5])
  have hmA10:=l11.map (o5.fresh (o:=.arr 2 [[r,.emp 1]]) hq5).head (b:=q') (c:=cA) (es:=cx (Value.int .i64) A) (by simp only[View.set]; rw[Va (hnq q' (by rw[hmA5]; simp)),hmA5])
  have o12:=(o11.emp (k:=1) (sz:=2)).perm (TB hperm2)
  have hst:df g cl at_ (S.map fun x=>x.2.2) i=((S1 ++ x :: (S2 ++ [(r,.emp 1,(⟨bz g cl (bf g i),[]⟩:aR))])).map fun x=>x.2.2).modify at_ (fun s=>(⟨s.bh,s.bk ++ [⟨bf g i,(S.length:Int)⟩]⟩:aR)):=by
   rw[df,Va hne,Vd hneg,Vg]
   congr 1
   rw[hSs]; simp
  have o13:bt H10 ((u2,2,eT (S1 ++ x :: (S2 ++ [(r,.emp 1,(⟨bz g cl (bf g i),[]⟩:aR))]))) :: (lT (S1 ++ x :: (S2 ++ [(r,.emp 1,(⟨bz g cl (bf g i),[]⟩:aR))])) ++ jh g cl (A.filter fun y=>decide (((i+1:Nat):Int)≤y.1)))):=by
   have e1:eT (S1 ++ x :: (S2 ++ [(r,.emp 1,(⟨bz g cl (bf g i),[]⟩:aR))]))=eT S ++ [[r,.emp 1]]:=by rw[hSs]; simp[eT]
   have e2:lT (S1 ++ x :: (S2 ++ [(r,.emp 1,(⟨bz g cl (bf g i),[]⟩:aR))]))=lT S ++ [(r,2,aT (bz g cl (bf g i))),(.emp 1,2,[])]:=by rw[hSs]; simp[lT]; rfl
   rw[e1,e2]
   exact o12
  have hBl:(S1 ++ x :: (S2 ++ [(r,V.emp 1,(⟨bz g cl (bf g i),[]⟩:aR))])).length≤400:=by
   have:=Wj List.length hSs
   simp at this ⊢; omega
  generalize (S2 ++ [(r,V.emp 1,(⟨bz g cl (bf g i),[]⟩:aR))])=B at hst o13 hN2 hBl
  generalize (S.length:Int)=to at hst ⊢
  clear o11 o12 l11 hmq5 hmA5 o5 hnq hq5
  rotate_left
  rw[Va hneg] at hNk
  rw[hNk]
  simp only[Vs,Option.isSome_some]
  simp (disch:=omega) only [↓wr,seval,wq,ah,ag,ak,aa,ab,af,ai,ae,t1,t5,t6,t7,t8]
  have hst:df g cl at_ (S.map fun x=>x.2.2) i=((S1 ++ x :: S2).map fun x=>x.2.2).modify at_ (fun s=>(⟨s.bh,s.bk ++ [⟨bf g i,findD (S.map fun x=>x.2.2) (bz g cl (bf g i))⟩]⟩:aR)):=by
   rw[df,Va hne,Va hneg,← hSs]
  have o13:=o3.sub (List.Sublist.cons_cons _ (hsub.append_left _))
  have hN2:=hNM
  have hBl:(S1 ++ x :: S2).length≤400:=by rw[← hSs]; omega
  have hmq10:=hmq3
  have hmA10:=hmA3
  generalize H3=H10 at o13 hmq10 hmA10 ⊢
  generalize u=u2 at o13 t5 ⊢
  rw[hSs] at o13 hN2
  generalize findD (S.map fun x=>x.2.2) (bz g cl (bf g i))=to at hst ⊢
  generalize S2=B at hst o13 hN2 hBl
  generalize M=M2 at hmq10 hN2
  generalize c=c' at hmq10
  all_goals (
   obtain ⟨id,hu,hid⟩:=(show ba H10 u2 2 (eT (S1 ++ x :: B)) from o13.head).sl (by rw[c4]; simp; omega)
   rw[c4] at hu
   rw[zV] at o13
   simp only[VV,VL] at o13
   simp (disch:=omega) only [↓wr,seval,wq,ah,ag,ak,aa,ab,af,ai,ae,t1,t5,t6,t7,t8,hu,hid,hgx B]
   refine ⟨by simp; omega,by rw[c4]; simp; omega,?_⟩
   intro q2 hq2
   have hnq:∀ b,H10 b≠.dead→b≠q2:=fun b hb e=>hb (by rw[e]; exact hq2)
   simp (disch:=omega) only [↓wr,seval,wq,ah,ag,ak,aa,ab,af,ai,ae,bV]
   refine cn ((o13.perm FV).fresh hq2) (by simp[aU]) (by unfold aJ; simp[fy]; omega) (by unfold aJ; simp[fy]; omega) ?_
   intro e2 H11 o14 l14
   have hmq11:=l14.map ((o13.perm FV).fresh (o:=.arr 2 [[gi sv,gi to]]) hq2).head (b:=q) (c:=c') (es:=cx ij M2) (by simp only[View.set]; rw[Va (hnq q (by rw[hmq10]; simp)),hmq10])
   have hmA11:=l14.map ((o13.perm FV).fresh (o:=.arr 2 [[gi sv,gi to]]) hq2).head (b:=q') (c:=cA) (es:=cx (Value.int .i64) A) (by simp only[View.set]; rw[Va (hnq q' (by rw[hmA10]; simp)),hmA10])
   have hid2:H11 id=.arr 2 (eT (S1 ++ x :: B)):=((o14.own 1 rfl).live (by rw[hu]; rfl)).1
   simp (disch:=omega) only [↓wr,seval,wq,ah,ag,ak,aa,ab,af,ai,ae,t1,t5,t6,t7,t8,t47,t48,hu,hid2,hgx B,o14.head.cells,o14.head.gR]
   have hset:(eT (S1 ++ x :: B)).set at_ [x.1,e2]=eT (S1 ++ (x.1,e2,(⟨x.2.2.bh,x.2.2.bk ++ [⟨bf g i,to⟩]⟩:aR)) :: B):=by
    rw[← hS1]; simp[eT]
   have hpd:fy (x.2.2.bk ++ [⟨bf g i,to⟩])=fy x.2.2.bk ++ [[gi sv,gi to]]:=by rw[hs]; simp[fy,jo]
   have o15:=o14.perm (.swap _ _ _)
   rw[hu] at o15
   have o16:=((o15.put (es':=eT (S1 ++ (x.1,e2,(⟨x.2.2.bh,x.2.2.bk ++ [⟨bf g i,to⟩]⟩:aR)) :: B)) (by rw[c4,c4]; simp) (by rw[c4])).perm (.swap _ _ _)).perm FV.symm
   rw[← hpd] at o16
   rw[← hu] at o16
   rw[hset]
   have hnid:∀ b c es,H11 b=.map es c→b≠id:=fun b c es hb e=>by rw[e,hid2] at hb; simp at hb
   refine ⟨by simp; omega,by rw[c4]; simp; omega,aM hk (by omega) ⟨u2,_,M2,c',?_,by rw[zV]; simp only[VV,VL]; exact o16,?_,?_,?_,t1,by first | rfl | exact t5 | exact hu.symm,t6,t7,t8,t47,rfl⟩⟩
   ·rw[hstep,hst,hput]; simp
   ·simp only[View.set]; rw[Va (hnid q' _ _ hmA11)]; exact hmA11
   ·simp only[View.set]; rw[Va (hnid q _ _ hmq11)]; exact hmq11
   ·refine hN2.same ?_
    simp))
end Gv
