/-
  Part 13 of the proof: what the machine does and what the functions answer.
  Conditions: those that each lemma names.
-/
import Derived.Test.YtihmlbdfcmfbdaaGreatSGzB1L
set_option linter.unusedSimpArgs false
set_option linter.unusedVariables false
set_option maxRecDepth 100000
namespace Gv
open Go Go.Proofs
def sr:SC :=
 .seq (an [bz 29 .lss 28 27]) <|
 .seq (.cond (.tmp 29) (.skip) (.exit 2)) <|
 .seq (.block 3 (.seq (an [aY 30 2 26 28,bM 31 2 30,((some 9),.op (.alloc [(.val (.int .i64 0)),(.val (.int .i64 0))])),(none,.op (.store 2 (.tmp 9) (.tmp 31)))]) <|
 .seq (an [aC 32 0 9,ay 33 32,aR 34 .lss 33 0]) <|
 .cond (.tmp 34) (.seq (an [aj 35 6,aC 36 0 9,ay 37 36,((some 38),.op (.arith .sub (.val (.val (.int .i64 (-1)))) (.tmp 37))),((some 39),.op (.build [(.val (.int .i64 0)),(.val (.int .i64 0))] [(0,1,(.tmp 35)),(1,1,(.tmp 38))])),((some 10),.op (.alloc [(.val (.int .i64 0)),(.val (.int .i64 0))])),(none,.op (.store 2 (.tmp 10) (.tmp 39)))]) <|
 .seq (an [aj 40 5,fp 41 40,aC 42 6 41,ay 43 42,bM 44 2 10,aj 45 5,fp 46 45,aC 47 7 46,ay 48 47,bj 49 48,(none,.op (.old (.mapUpdate 110 (.tmp 43) (.tmp 44) (.tmp 49)) 0))]) <|
 an [aj 50 5,aj 51 5,fp 52 51,aC 53 7 52,ay 54 53,bM 55 2 10,((some 56),.op (.c4 1 2 [(.val (.int .i64 0)),(.val (.int .i64 0))] [(0,(.tmp 55))])),((some 57),.op (.app 2 16 (.tmp 54) (.tmp 56))),fp 58 50,aC 59 7 58,(none,.op (.store 1 (.tmp 59) (.tmp 57)))]) (.skip))) <|
 an [aR 60 .add 28 1,aj 28 60]
def sL:SC :=
 .seq (an [bz 21 .lss 20 19]) <|
 .seq (.cond (.tmp 21) (.skip) (.exit 0)) <|
 .seq (.block 1 (.seq (an [aj 22 20,aY 23 2 18 20,bM 24 2 23,((some 7),.op (.alloc [(.emp 1),(.emp 1)])),aj 6 22,(none,.op (.store 2 (.tmp 7) (.tmp 24)))]) <|
 .seq (an [aC 25 1 7,ay 26 25,bj 27 26,bA 28 0]) <|
 .block 2 (.loop sr))) <|
 an [aR 61 .add 20 1,aj 20 61]
def wL:SF:=⟨.seq (an [dN 2 0,((some 4),.op (.bN (.val (.val (.pointer none)))))]) <|
 .seq (.region true [⟨none,[bM 11 4 2,aj 12 1,bM 13 4 2,bJ 14 118 [13],((some 15),.op (.mJ)),((some 16),.op (.build [(.emp 1),(.emp 1),(.emp 1),(.val (.int .i64 0)),(.emp 1),(.emp 1),(.val (.map none)),(.emp 1),(.emp 1),(.emp 1)] [(0,4,(.tmp 11)),(4,1,(.tmp 12)),(5,1,(.tmp 14)),(6,1,(.tmp 15))])),((some 17),.op (.box (.tmp 16))),aj 5 17]⟩]) <|
 .seq (.seq (an [aj 18 1,bj 19 18,bA 20 0]) <|
 .block 0 (.loop sL)) <|
 .seq (an [aj 62 5,aj 63 5,fp 64 63,aC 65 7 64,ay 66 65,bj 67 66,((some 68),.op (.make 1 4 [(.val (.int .u32 0))] (.tmp 67) (.tmp 67))),fp 69 62,aC 70 8 69,(none,.op (.store 1 (.tmp 70) (.tmp 68)))]) <|
 .seq (an [aj 71 5,aj 72 5,fp 73 72,aC 74 7 73,ay 75 74,bj 76 75,((some 77),.op (.make 1 24 [(.emp 1)] (.tmp 76) (.tmp 76))),fp 78 71,aC 79 9 78,(none,.op (.store 1 (.tmp 79) (.tmp 77)))]) <|
 .seq (an [aj 80 5,aj 4 80]) <|
 .ret,
 [.tmp 4],81⟩
theorem zy:aU Tryz.prog 72 [2]=some wL:=by kernel_rfl
theorem tX:Nc Tryz.prog 116 :=
 ⟨⟨⟨ "state",3,0,false,"","gerund/look",0⟩,⟨ "non",3,1,false,"","gerund/look",8⟩,by kernel_rfl,by decide,by decide,Tryz.underlying3,Tryz.underlying3,rfl,rfl⟩,by kernel_rfl⟩
def iR (i:Nat) (l:List c8):List (Int × Int):=(l.filter fun e=>decide (e.sym < 0)).map fun e=>((i:Int),-1 - e.sym)
def jA (a:List aP) (n:Nat):List (Int × Int):=(List.range n).flatMap fun i=>iR i (a.getD i bm).aX
abbrev aN (a:List aP):List (Int × Int):=jA a a.length
theorem tH (a:List aP) (n:Nat):jA a (n+1)=jA a n ++ iR n (a.getD n bm).aX:=by
 unfold jA
 rw[Sb,List.flatMap_append]; simp
theorem NG {i j:Nat} {l:List c8} {e:c8} (h:l[j]?=some e):iR i (l.take (j+1))=if e.sym < 0 then iR i (l.take j) ++ [((i:Int),-1 - e.sym)] else iR i (l.take j):=by
 unfold iR
 rw[J8 h]
 by_cases he:e.sym < 0
 ·simp[he]
 ·simp[he]
theorem OI {a:List aP} : ∀ {n m:Nat},n≤m→jA a n <+: jA a m:=fun {n m} h=>by
 induction h with
 | refl=>exact List.prefix_refl _
 | step _ ih=>rw[tH]; exact ih.trans (List.prefix_append _ _)
theorem Gx (i:Nat) (l:List c8):(iR i l).length≤l.length:=by
 unfold iR; rw[Ro]; exact Sg _ _
theorem ko {a:List aP} (h:∀ s∈a,s.aX.length≤40):∀ n,(jA a n).length≤40 * n
 | 0=>by simp[jA]
 | n+1=>by
  have ih:=ko h n
  rw[tH,R5]
  have h1:=Gx n (a.getD n bm).aX
  have h2:(a.getD n bm).aX.length≤40:=by
   rcases Rw n a.length with q | q
   ·exact h _ (Re (getD_some q))
   ·rw[Q6,RH q]; simp[bm]
  omega
abbrev kY (ws:List (Int × Int)):List (List V):=ws.map fun x=>[gi x.1,gi x.2]
def Dn (ws:List (Int × Int)) (M:bF (Int × Int)):Prop:=∀ (k:Nat) (x:Int × Int),ws[k]?=some x→getM M x=some (gi k)
theorem Dn.put {ws:List (Int × Int)} {M:bF (Int × Int)} (h:Dn ws M) {x:Int × Int} (hx:x ∉ ws) (c:Nat):Dn (ws ++ [x]) (bu x (gi ws.length) c M):=fun k y hy=>by
 rw[nO]
 by_cases hk:k < ws.length
 ·rw[Rt hk] at hy
  have hne:(y == x)=false:=beq_eq_false_iff_ne.2 fun e=>hx (e ▸ Re hy)
  rw[hne]
  exact h k y hy
 ·rw[RL (by omega)] at hy
  have:k - ws.length=0:=by
   rcases Nat.eq_zero_or_pos (k - ws.length) with q | q
   ·exact q
   ·rw[RH (by simp; omega)] at hy; simp at hy
  rw[this] at hy
  simp at hy
  subst hy
  rw[SP,Ra rfl,show k=ws.length by omega]
abbrev gX (A:List (V × List Nat)):List cb:=A.map fun x=>(x.1,1,ez x.2)
structure cw (g:ao) (a:List aP) (H:View) (W qn cM:Nat) (M:bF (Int × Int)) (uw:V) (s e:Nat) (ws:List (Int × Int)) (Sl:List BV) (A:List (V × List Nat)) (L:List cb):Prop where
 own:bk H ((.sl W 0 1 10,10,[[.aH (g.av.map ca),.aH (g.az.map fun s=>[gs s]),.aH (g.rules.map aO),gi g.start,bS a,bG (au g false),.mp qn,uw,.sl s 0 ws.length 1,.sl e 0 ws.length 1]]) :: (uw,2,kY ws) :: (.sl s 0 ws.length 1,1,bQ Sl) :: (.sl e 0 ws.length 1,1,bD A) :: (gX A ++ L))
 mp:H qn=.map (bw dY M) cM
 bo:fH M cM
 num:Dn ws M
 sl:Sl.length=ws.length
 al:A.length=ws.length
def GB (g:ao) (a:List aP) (H:View) (W qn:Nat) (ws:List (Int × Int)):Prop:=∃ (uw:V) (cM:Nat) (M:bF (Int × Int)),
 bk H [(.sl W 0 1 10,10,[[.aH (g.av.map ca),.aH (g.az.map fun s=>[gs s]),.aH (g.rules.map aO),gi g.start,bS a,bG (au g false),.mp qn,uw,.emp 1,.emp 1]]),(uw,2,kY ws)]∧H qn=.map (bw dY M) cM∧fH M cM∧Dn ws M
theorem GB.fresh {g:ao} {a:List aP} {H:View} {W qn:Nat} {ws:List (Int × Int)} (h:GB g a H W qn ws) {q:Nat} (hq:H q=.dead) {o:dh} : GB g a (H.set q o) W qn ws:=by
 obtain ⟨uw,cM,M,h1,h2,h3,h4⟩:=h
 refine ⟨uw,cM,M,h1.fresh hq,?_,h3,h4⟩
 simp only[View.set]; rw[Q9 (fun e=>by rw[e,hq] at h2; simp at h2)]; exact h2
theorem bk.Mj {H:View} {L:List cb} (h:bk H L):∀ n:Nat,bk H (L ++ gX (List.replicate n (.emp 1,[])))
 | 0=>by simpa using h
 | n+1=>by
  have ih:=(bk.Mj h n).emp (k:=1) (sz:=1)
  rw[List.replicate_succ,gX,RE]
  exact ih.perm R6.symm
set_option maxHeartbeats 16000000 in
theorem MP (g:ao) (hg:g.Ok) (hsm:g.Small) (a:List aP) (ha:a.length≤300) (he:∀ s∈a,s.aX.length≤40∧∀ e∈s.aX,-1000≤e.sym∧e.sym≤1000) (hnd:(aN a).Nodup) (h1:1≤(aN a).length) (H:View) :
  aB Tryz.prog 72 [.agg (aw g),bS a] H fun r H'=>∃ (W qn cM:Nat) (M:bF (Int × Int)) (uw:V) (s e:Nat),r=.ptr W 0 0∧cw g a H' W qn cM M uw s e (aN a) (List.replicate (aN a).length 0) (List.replicate (aN a).length (.emp 1,[])) []:=by
 refine aB.of mixed zy ?_
 have hnl:=(vH g hg hsm).pure
 have hlen:=ko (fun s h=>(he s h).1)
 simp only[aw,encS] at hnl
 simp (disch:=omega) only [↓wr,seval,wq,ah,ag,ak,aa,ab,af,ai,ae,wL,aw,encS]
 refine aF.pure hnl (by kernel_rfl) ?_
 simp (disch:=omega) only [↓wr,seval,wq,ah,ag,ak,aa,ab,af,ai,ae,bS,bG]
 intro qn hqn W hW
 have hWq:W≠qn:=fun e=>by rw[Ra e] at hW; simp at hW
 rw[Q9 hWq] at hW
 have hstart:GB g a ((H.set qn (.map [] 0)).set W (.arr 10 [[.aH (g.av.map ca),.aH (g.az.map fun s=>[gs s]),.aH (g.rules.map aO),gi g.start,bS a,bG (au g false),.mp qn,.emp 1,.emp 1,.emp 1]])) W qn (jA a 0):=by
  refine ⟨.emp 1,0,[],?_,by simp[View.set,Ne.symm hWq,bw],⟨by simp,by simp⟩,fun k x h=>by simp[jA] at h⟩
  exact ((bk.nil.emp (k:=1) (sz:=2)).fresh hqn).new (n:=W) (by simp[View.set,hWq,hW]) 10 [[.aH (g.av.map ca),.aH (g.az.map fun s=>[gs s]),.aH (g.rules.map aO),gi g.start,bS a,bG (au g false),.mp qn,.emp 1,.emp 1,.emp 1]]
 refine bg.up a.length (fun i T H'=>GB g a H' W qn (jA a i)∧T 5=.ptr W 0 0∧T 18=bS a∧T 19=gi a.length∧T 20=gi i) ⟨hstart,rfl,rfl,rfl,rfl⟩ ?_
 clear hstart hW hqn hWq
 rintro i k T H' hk ⟨hI,t5,t18,t19,t20⟩
 simp (disch:=omega) only [↓wr,seval,wq,ah,ag,ak,aa,ab,af,ai,ae,sL,t5,t18,t19,t20]
 refine aq.dec (fun hc=>?_) (fun hc=>?_)
 rotate_left
 ·have hia:i=a.length:=by omega
  subst hia
  obtain ⟨uw,cM,M,hO,hMp,hBo,hNu⟩:=hI
  have hW0:=hO.is 0 rfl (by simp)
  have hul:cY uw=some (aN a).length:=by rw[hO.tail.head.len,Ro]
  have hnl2:(aN a).length≤40 * a.length:=hlen a.length
  have hucell:=hO.tail.head.cells
  have hucok:=hO.tail.head.qi
  have hQW:qn≠W:=fun e=>by rw[e,hW0] at hMp; simp at hMp
  have hWd:∀ q,H' q=.dead→W≠q:=fun q hq e=>by rw[e,hq] at hW0; simp at hW0
  simp (disch:=omega) only [↓wr,seval,wq,ah,ag,ak,aa,ab,af,ai,ae,t5,hW0,hul]
  refine ⟨⟨by omega,by unfold aK; omega,by unfold aK; omega⟩,fun h0=>by omega,fun _ s hs=>?_⟩
  have w1:=hWd s hs
  simp (disch:=omega) only [↓wr,seval,wq,ah,ag,ak,aa,ab,af,ai,ae,t5,hW0,hul,w1]
  refine ⟨⟨by omega,by unfold aK; omega,by unfold aK; omega⟩,fun h0=>by omega,fun _ e he0=>?_⟩
  obtain ⟨n1,he0⟩:=gQ he0
  obtain ⟨n2,he0⟩:=gQ he0
  simp (disch:=omega) only [↓wr,seval,wq,ah,ag,ak,aa,ab,af,ai,ae,t5,Ne.symm n1]
  have o1:=hO.new hs 1 (List.replicate (aN a).length [V.val (.int .u32 0)])
  have o2:=(o1.perm (.swap _ _ _)).put (es':=[[.aH (g.av.map ca),.aH (g.az.map fun s=>[gs s]),.aH (g.rules.map aO),gi g.start,bS a,bG (au g false),.mp qn,uw,.sl s 0 (aN a).length 1,.emp 1]]) rfl rfl
  have o3:=o2.new (n:=e) (by simp only[View.set]; rw[Q9 n1,Q9 n2]; exact he0) 1 (List.replicate (aN a).length [.emp 1])
  have o4:=(o3.perm (.swap _ _ _)).put (es':=[[.aH (g.av.map ca),.aH (g.az.map fun s=>[gs s]),.aH (g.rules.map aO),gi g.start,bS a,bG (au g false),.mp qn,uw,.sl s 0 (aN a).length 1,.sl e 0 (aN a).length 1]]) rfl rfl
  have o5:=(o4.perm (.cons _ (List.reverse_perm _).symm)).Mj (aN a).length
  have e1:List.replicate (aN a).length [V.val (.int .u32 0)]=bQ (List.replicate (aN a).length 0#32):=by simp
  have e2:List.replicate (aN a).length [V.emp 1]=bD (List.replicate (aN a).length ((V.emp 1,[]):V × List Nat)):=by simp[bD]
  simp only[Te,List.reverse_cons,List.reverse_nil,Sm,RM] at o5
  refine ⟨W,qn,cM,M,uw,s,e,rfl,?_,?_,hBo,hNu,by simp,by simp⟩
  ·rw[← e1,← e2,SM]; exact o5
  ·simp only[View.set]
   rw[Q9 hQW,Q9 (fun h=>by rw[h,he0] at hMp; simp at hMp),Q9 hQW,Q9 (fun h=>by rw[h,hs] at hMp; simp at hMp)]
   exact hMp
 have hx:a[i]?=some (a.getD i bm):=getD_some (by omega)
 have hstep:=tH a i
 have hpre:=OI (a:=a) (n:=i+1) (m:=a.length) (by omega)
 rw[hstep] at hpre
 generalize a.getD i bm=x at hx hstep hpre
 obtain ⟨hx1,hx2⟩:=he x (Re hx)
 simp (disch:=omega) only [↓wr,seval,wq,ah,ag,ak,aa,ab,af,ai,ae,t5,t18,t19,t20,bS,Rc,hx,Rk,kZ]
 intro q1 hq1
 rw[set_set]
 have hI1:=hI.fresh hq1 (o:=.arr 2 [[.aH (bT x.bh),.aH (gH x.aX)]])
 generalize H'.set q1 (.arr 2 [[.aH (bT x.bh),.aH (gH x.aX)]])=H1 at hI1 ⊢
 refine bg.up x.aX.length (fun j T H'=>GB g a H' W qn (jA a i ++ iR i (x.aX.take j))∧T 5=.ptr W 0 0∧T 6=gi i∧T 18=bS a∧T 19=gi a.length∧T 20=gi i∧T 26=.aH (gH x.aX)∧T 27=gi x.aX.length∧T 28=gi j) ⟨by simpa [iR] using hI1,t5,rfl,t18,t19,t20,rfl,by show gi ((gH x.aX).length:Int)=_; simp[gH],rfl⟩ ?_
 clear t5 t18 t19 t20 hI hI1 hq1
 rintro j m T H2 hm2 ⟨hI2,t5,t6,t18,t19,t20,t26,t27,t28⟩
 simp (disch:=omega) only [↓wr,seval,wq,ah,ag,ak,aa,ab,af,ai,ae,sr,t5,t6,t26,t27,t28]
 refine aq.dec (fun hc2=>?_) (fun hc2=>?_)
 rotate_left
 ·simp (disch:=omega) only [↓wr,seval,wq,ah,ag,ak,aa,ab,af,ai,ae,t5,t18,t19,t20]
  rw[Rz (by omega),← hstep] at hI2
  exact aQ hk (by omega) ⟨hI2,t5,t18,t19,rfl⟩
 have hy:x.aX[j]?=some (x.aX[j]'(by omega)):=Q7 (by omega)
 have hym:=Rj (show j < x.aX.length by omega)
 generalize x.aX[j]'(by omega)=y at hy hym
 have hyb:=hx2 y hym
 have htk:=NG (i:=i) hy
 simp (disch:=omega) only [↓wr,seval,wq,ah,ag,ak,aa,ab,af,ai,ae,t5,t6,t18,t19,t20,t26,t27,t28,gH,Rc,hy,Rk,kr]
 intro q2 hq2
 refine aq.dec (fun hneg=>?_) (fun hneg=>?_)
 rotate_left
 ·simp (disch:=omega) only [↓wr,seval,wq,ah,ag,ak,aa,ab,af,ai,ae,t5,t6,t18,t19,t20,t26,t27,t28]
  rw[set_set]
  rw[Q9 hneg] at htk
  exact aQ hm2 (by omega) ⟨by rw[htk]; exact hI2.fresh hq2,t5,t6,t18,t19,t20,t26,t27,rfl⟩
 rw[Ra hneg] at htk
 rw[set_set]
 have hI3:=hI2.fresh hq2 (o:=.arr 2 [[gi y.sym,gi y.to]])
 have hq2':(H2.set q2 (.arr 2 [[gi y.sym,gi y.to]])) q2=.arr 2 [[gi y.sym,gi y.to]]:=by simp[View.set]
 generalize H2.set q2 (.arr 2 [[gi y.sym,gi y.to]])=H3 at hI3 hq2' ⊢
 clear hI2 hq2
 simp (disch:=omega) only [↓wr,seval,wq,ah,ag,ak,aa,ab,af,ai,ae,t5,t6,hq2']
 intro q3 hq3
 obtain ⟨uw,cM,M,hO,hMp,hBo,hNu⟩:=hI3
 have hW3:=hO.is 0 rfl (by simp)
 have hWq3:W≠q3:=fun e=>by rw[e,hq3] at hW3; simp at hW3
 have hQq3:qn≠q3:=fun e=>by rw[e,hq3] at hMp; simp at hMp
 have hul:cY uw=some (jA a i ++ iR i (x.aX.take j)).length:=by rw[hO.tail.head.len,Ro]
 have hwl:=hlen i
 have hwl2:=Gx i (x.aX.take j)
 rw[Sa] at hwl2
 have hnew:((i:Int),-1 - y.sym) ∉ jA a i ++ iR i (x.aX.take j):=by
  have h2:(jA a i ++ iR i (x.aX.take (j+1))).Nodup:=by
   have h3:iR i (x.aX.take (j+1)) <+: iR i x.aX:=by
    unfold iR
    refine List.IsPrefix.map _ (List.IsPrefix.filter _ (List.take_prefix _ _))
   obtain ⟨r,hr⟩:=h3
   have h4:=hpre.sublist.nodup hnd
   rw[← hr,← RO,RV] at h4
   exact h4.1
  rw[htk,← RO,RV] at h2
  exact fun h=>h2.2.2 _ h _ (by simp) rfl
 have htk2:jA a i ++ iR i (x.aX.take (j+1))=(jA a i ++ iR i (x.aX.take j)) ++ [((i:Int),-1 - y.sym)]:=by rw[htk,RO]
 have hwb:(jA a i ++ iR i (x.aX.take j)).length≤20000:=by rw[R5]; omega
 clear htk
 generalize jA a i ++ iR i (x.aX.take j)=ws at *
 simp (disch:=omega) only [↓wr,seval,wq,ah,ag,ak,aa,ab,af,ai,ae,t5,t6,hWq3,hQq3,hW3,hul]
 have hmt:cT Tryz.prog 110=some (116,3):=by kernel_rfl
 refine QD (kv:=dY) (kt:=116) (et:=3) (id:=qn) (c:=cM) (m:=M) (k:=((i:Int),-1 - y.sym)) (v:=gi (ws.length:Int)) hmt (wU tX) (by first | rfl | simp (disch:=omega) only [↓wr,seval,wq,ah,ag,ak,aa,ab,af,ai,ae]) (by first | rfl | (simp (disch:=omega) only [↓wr,seval,wq,ah,ag,ak,aa,ab,af,ai,ae]; rfl)) (by first | rfl | simp (disch:=omega) only [↓wr,seval,wq,ah,ag,ak,aa,ab,af,ai,ae]) (by show (View.set (View.set H3 q3 _) q3 _) qn=_; simp only[View.set]; rw[Q9 hQq3,Q9 hQq3]; exact hMp) hBo fun c' hb'=>?_
 rw[set_set]
 have hO5:=(hO.fresh hq3 (o:=.arr 2 [[gi (i:Int),gi (-1 - y.sym)]])).sf (b:=qn) (c:=cM) (es:=bw dY M) (by simp only[View.set]; rw[Q9 hQq3]; exact hMp) (o:=.map (bw dY (bu ((i:Int),-1 - y.sym) (gi (ws.length:Int)) cM M)) c')
 have hM5:((H3.set q3 (.arr 2 [[gi (i:Int),gi (-1 - y.sym)]])).set qn (.map (bw dY (bu ((i:Int),-1 - y.sym) (gi (ws.length:Int)) cM M)) c')) qn=.map (bw dY (bu ((i:Int),-1 - y.sym) (gi (ws.length:Int)) cM M)) c':=by simp[View.set]
 have hq5:((H3.set q3 (.arr 2 [[gi (i:Int),gi (-1 - y.sym)]])).set qn (.map (bw dY (bu ((i:Int),-1 - y.sym) (gi (ws.length:Int)) cM M)) c')) q3=.arr 2 [[gi (i:Int),gi (-1 - y.sym)]]:=by
  simp only[View.set]; rw[Q9 (Ne.symm hQq3)]; simp
 have hNu5:=hNu.put hnew cM
 generalize ((H3.set q3 (.arr 2 [[gi (i:Int),gi (-1 - y.sym)]])).set qn (.map (bw dY (bu ((i:Int),-1 - y.sym) (gi (ws.length:Int)) cM M)) c'))=H5 at hO5 hM5 hq5 ⊢
 generalize bu ((i:Int),-1 - y.sym) (gi (ws.length:Int)) cM M=M5 at hb' hM5 hNu5
 clear hO hMp hBo hNu hW3 hq3 hq2' hWq3 hQq3
 have hW5:=hO5.is 0 rfl (by simp)
 simp (disch:=omega) only [↓wr,seval,wq,ah,ag,ak,aa,ab,af,ai,ae,t5,hW5,hq5]
 intro q4 hq4
 simp (disch:=omega) only [↓wr,seval,wq,ah,ag,ak,aa,ab,af,ai,ae,dW]
 refine eR ((hO5.perm (.swap _ _ _)).fresh hq4) (by simp[aS]) (by unfold aK; simp; omega) (by unfold aK; simp; omega) ?_
 intro uw2 H6 hO6 l6
 have hW6:=hO6.is 1 rfl (by simp)
 have hM6:=l6.map (((hO5.perm (.swap _ _ _)).fresh hq4).head) (b:=qn) (c:=c') (es:=bw dY M5) (by simp only[View.set]; rw[Q9 (fun e=>by rw[← e,hM5] at hq4; simp at hq4)]; exact hM5)
 have hQW:qn≠W:=fun e=>by rw[e,hW6] at hM6; simp at hM6
 simp (disch:=omega) only [↓wr,seval,wq,ah,ag,ak,aa,ab,af,ai,ae,t5,t6,t18,t19,t20,t26,t27,t28,hW6,hO6.head.cells,hO6.head.qi]
 have hO7:=(hO6.perm (.swap _ _ _)).put (es':=[[.aH (g.av.map ca),.aH (g.az.map fun s=>[gs s]),.aH (g.rules.map aO),gi g.start,bS a,bG (au g false),.mp qn,uw2,.emp 1,.emp 1]]) rfl rfl
 have e:kY ws ++ [[gi (i:Int),gi (-1 - y.sym)]]=kY (ws ++ [((i:Int),-1 - y.sym)]):=by simp
 rw[e] at hO7
 refine aQ hm2 (by omega) ⟨?_,t5,t6,t18,t19,t20,t26,t27,rfl⟩
 rw[htk2]
 exact ⟨uw2,c',M5,hO7,by simp only[View.set]; rw[Q9 hQW]; exact hM6,hb',hNu5⟩
def rW (ws:List (Int × Int)) (x:Int × Int):Nat:=(cB (fun y=>y == x) ws 0).toNat
theorem ja {ws:List (Int × Int)} {x:Int × Int} (h:x∈ws):ws[rW ws x]?=some x:=by
 unfold rW
 rcases Ct (fun y=>y == x) ws 0 (Int.le_refl _) with h1 | ⟨k,y,h1,h2,h3,_⟩
 ·have:=Cs _ ws 0 (Int.le_refl _) h1 x h
  simp at this
 ·rw[h1,show ((0:Int)+(k:Int)).toNat=k by omega,h2]
  simp at h3
  rw[h3]
theorem E7 {ws:List (Int × Int)} (hn:ws.Nodup) {k:Nat} {x:Int × Int} (h:ws[k]?=some x):rW ws x=k:=by
 have h1:=ja (Re h)
 exact (List.getElem?_inj (Rl.1 h1).1 hn).1 (h1.trans h.symm)
section
variable {g:ao} {a:List aP}
theorem cL {p:Nat} {B:Int} : ((p:Int),B)∈aN a↔0≤B∧dq a p (-1 - B):=by
 simp only[aN,jA,List.mem_flatMap,R3,iR,Rv,RQ,Rn,Rb,dq]
 constructor
 ·rintro ⟨i,hi,e,⟨h1,h2⟩,h3,h4⟩
  have:i=p:=by omega
  subst this
  exact ⟨by omega,e,h1,by omega⟩
 ·rintro ⟨h0,e,h1,h2⟩
  exact ⟨p,(xf h1).1,e,⟨h1,by omega⟩,rfl,by omega⟩
theorem qa {x:Int × Int} (h:x∈aN a):∃ p:Nat,x=((p:Int),x.2):=by
 simp only[aN,jA,List.mem_flatMap,R3,iR,Rv] at h
 obtain ⟨i,_,e,_,rfl⟩:=h
 exact ⟨i,rfl⟩
theorem Kh {i:Nat} {l:List c8} (h:(l.map c8.sym).Nodup):(iR i l).Nodup:=by
 unfold iR
 have h1:((l.filter fun e=>decide (e.sym < 0)).map c8.sym).Nodup:=(List.Sublist.map _ List.filter_sublist).nodup h
 unfold List.Nodup at h1 ⊢
 rw[Tm] at h1 ⊢
 exact h1.imp fun hne e=>hne (by simp only[Rb] at e; omega)
theorem vg (hA:bU g a):(aN a).Nodup:=by
 have key:∀ n,n≤a.length→(jA a n).Nodup∧∀ x∈jA a n,x.1 < n:=by
  intro n
  induction n with
  | zero=>intro _; simp[jA]
  | succ n ih =>
   intro hn
   obtain ⟨h1,h2⟩:=ih (by omega)
   rw[tH]
   have hm:=Re (getD_some (d:=bm) (show n < a.length by omega))
   have h3:(iR n (a.getD n bm).aX).Nodup:=Kh (by rw[hA.x.all _ hm]; exact xo _ _ _)
   have h4:∀ x∈iR n (a.getD n bm).aX,x.1=n:=fun x hx=>by
    simp only[iR,Rv] at hx
    obtain ⟨e,_,rfl⟩:=hx; rfl
   refine ⟨RV.2 ⟨h1,h3,fun x hx y hy e=>?_⟩,fun x hx=>?_⟩
   ·have:=h2 x hx
    have:=h4 y hy
    rw[e] at *
    omega
   ·rcases Ry.1 hx with hx | hx
    ·have:=h2 x hx; push_cast; omega
    ·have:=h4 x hx; push_cast; omega
 exact (key a.length (Ri _)).1
theorem nJ (hA:bU g a):1≤(aN a).length:=by
 have h0:dq a 0 (-1 - g.start):=(hA.kB (by have:=hA.pos; omega)).2 ⟨⟨-1,0⟩,(df hA.b7 (hA.bh (by have:=hA.pos; omega))).2 (.base (by rw[hA.e.first]; simp)),by
  unfold bO; rw[Q9 (by simp[aI])]; simp[aI]⟩
 have:=cL.2 ⟨hA.b7.jT,h0⟩
 exact List.length_pos_of_mem this
def mQ (b:BV) (l:List c8):BV:=l.foldl (fun b e=>if 0≤e.sym then b ||| dI e.sym else b) b
def mS (g:ao) (x:Int × Int):BV:=if x.1=0∧x.2=g.start then dI g.av.length else 0
def qF (g:ao) (ws:List (Int × Int)) (q:Nat) (l:List c8):List Nat:=(l.filter fun e=>decide (e.sym < 0) && (au g false).getD (-1 - e.sym).toNat false).map fun e=>rW ws ((q:Int),-1 - e.sym)
def oY (g:ao) (a:List aP) (x:Int × Int):BV:=mQ (mS g x) (a.getD (dx a x.1.toNat (-1 - x.2)) bm).aX
def lD (g:ao) (a:List aP) (x:Int × Int):List Nat:=qF g (aN a) (dx a x.1.toNat (-1 - x.2)) (a.getD (dx a x.1.toNat (-1 - x.2)) bm).aX
theorem BG {t:Nat} : ∀ (l:List c8) (b:BV),(mQ b l).getLsbD t=true↔b.getLsbD t=true∨∃ e∈l,0≤e.sym∧(dI e.sym).getLsbD t=true
 | [],b=>by simp[mQ]
 | e :: l,b=>by
  have ih:=BG (t:=t) l (if 0≤e.sym then b ||| dI e.sym else b)
  unfold mQ at ih ⊢
  rw[Rx,ih]
  by_cases h:0≤e.sym
  ·rw[Ra h,R4,Se]
   constructor
   ·rintro ((h1 | h1) | ⟨x,h1,h2⟩)
    ·exact .inl h1
    ·exact .inr ⟨e,by simp,h,h1⟩
    ·exact .inr ⟨x,by simp[h1],h2⟩
   ·rintro (h1 | ⟨x,h1,h2⟩)
    ·exact .inl (.inl h1)
    ·rcases Rm.1 h1 with rfl | h1
     ·exact .inl (.inr h2.2)
     ·exact .inr ⟨x,h1,h2⟩
  ·rw[Q9 h]
   constructor
   ·rintro (h1 | ⟨x,h1,h2⟩)
    ·exact .inl h1
    ·exact .inr ⟨x,by simp[h1],h2⟩
   ·rintro (h1 | ⟨x,h1,h2⟩)
    ·exact .inl h1
    ·rcases Rm.1 h1 with rfl | h1
     ·exact absurd h2.1 h
     ·exact .inr ⟨x,h1,h2⟩
abbrev cK (a:List aP) (x:Nat):Int × Int:=(aN a).getD x (0,0)
theorem yo (hA:bU g a) {p t:Nat} {B:Int} (he:dq a p (-1 - B)):(oY g a ((p:Int),B)).getLsbD t=true↔(p=0∧B=g.start∧t=g.av.length)∨(t < g.av.length∧dq a (dx a p (-1 - B)) t):=by
 have hT:=hA.b7.av
 obtain ⟨_,_,_,_,hq,_⟩:=hA.dx he
 unfold oY
 simp only[Rs]
 rw[BG]
 refine or_congr ?_ ?_
 ·unfold mS
  simp only
  split
  ·rename_i h
   rw[oP (by omega)]
   exact ⟨fun h2=>⟨by omega,h.2,h2⟩,fun h2=>h2.2.2⟩
  ·rename_i h
   exact ⟨fun h2=>by simp at h2,fun h2=>absurd ⟨by omega,h2.2.1⟩ h⟩
 ·constructor
  ·rintro ⟨e,h1,h2,h3⟩
   have hE:dq a (dx a p (-1 - B)) e.sym:=⟨e,h1,rfl⟩
   obtain ⟨y,hy,hn⟩:=(hA.kB hq).1 hE
   have hb:=nM (nF hA.b7 (hA.has hq hy) hn)
   obtain ⟨k,hk⟩:∃ k:Nat,e.sym=k:=⟨e.sym.toNat,by omega⟩
   rw[hk,oP (by omega)] at h3
   subst h3
   exact ⟨by omega,by rw[← hk]; exact hE⟩
  ·rintro ⟨h1,e,h2,h3⟩
   exact ⟨e,h2,by omega,by rw[h3,oP (by omega)]⟩
theorem yJ (hA:bU g a) {p y:Nat} {B:Int} (_:dq a p (-1 - B)):y∈lD g a ((p:Int),B)↔∃ C:Int,0≤C∧(au g false).getD C.toNat false=true∧dq a (dx a p (-1 - B)) (-1 - C)∧(aN a)[y]?=some ((dx a p (-1 - B):Int),C):=by
 unfold lD qF
 simp only[Rs,Rv,RQ,Rg,Rn]
 constructor
 ·rintro ⟨e,⟨h1,h2,h3⟩,rfl⟩
  have hE:dq a (dx a p (-1 - B)) (-1 - (-1 - e.sym)):=⟨e,h1,by omega⟩
  exact ⟨-1 - e.sym,by omega,h3,hE,ja (cL.2 ⟨by omega,hE⟩)⟩
 ·rintro ⟨C,h1,h2,⟨e,h3,h4⟩,h5⟩
  refine ⟨e,⟨h3,by omega,by rw[h4,show -1 - (-1 - C)=C by omega]; exact h2⟩,?_⟩
  rw[h4,show -1 - (-1 - C)=C by omega]
  exact E7 (vg hA) h5
theorem HL (hA:bU g a) {x:Nat} (hx:x < (aN a).length):∀ y∈lD g a (cK a x),y < (aN a).length:=fun y hy=>by
 have hg:(aN a)[x]?=some (cK a x):=getD_some hx
 have hm:=Re hg
 obtain ⟨p,hp⟩:=qa hm
 rw[hp] at hm hy
 obtain ⟨_,_,_,_,h⟩:=(yJ hA (cL.1 hm).2).1 hy
 exact (Rl.1 h).1
theorem K2 (hA:bU g a) {x t:Nat} {p:Nat} {B:Int} (hx:(aN a)[x]?=some ((p:Int),B)):kx (fun x=>lD g a (cK a x)) (fun x=>oY g a (cK a x)) x t↔mg g a p B t:=by
 have hget:∀ {x:Nat} {y:Int × Int},(aN a)[x]?=some y→cK a x=y:=fun {x y} h=>by
  rw[cK,Q6,h]; rfl
 constructor
 ·rintro ⟨w,hr,hw⟩
  induction hr generalizing p B with
  | refl =>
   have he:=(cL.1 (Re hx)).2
   simp only at hw
   rw[hget hx] at hw
   rcases (yo hA he).1 hw with ⟨rfl,rfl,rfl⟩ | ⟨h1,h2⟩
   ·exact .fin
   ·exact .term h1 h2
  | @step x y w hy hr ih =>
   have he:=(cL.1 (Re hx)).2
   rw[hget hx] at hy
   obtain ⟨C,h1,h2,h3,h4⟩:=(yJ hA he).1 hy
   exact .null h1 h3 h2 (ih h4 hw)
 ·intro h
  induction h generalizing x with
  | fin =>
   have he:=(cL.1 (Re hx)).2
   exact ⟨x,.refl,by simp only; rw[hget hx]; exact (yo hA he).2 (.inl ⟨rfl,rfl,rfl⟩)⟩
  | @term p B t h1 h2 =>
   have he:=(cL.1 (Re hx)).2
   exact ⟨x,.refl,by simp only; rw[hget hx]; exact (yo hA he).2 (.inr ⟨h1,h2⟩)⟩
  | @null p B C t h1 h2 h3 h4 ih =>
   have he:=(cL.1 (Re hx)).2
   have hm:=ja (cL.2 ⟨h1,h2⟩)
   obtain ⟨w,k1,k2⟩:=ih hm
   exact ⟨w,.step (by rw[hget hx]; exact (yJ hA he).2 ⟨C,h1,h3,h2,hm⟩) k1,k2⟩
end
def gx (l:List UInt8):Value:=.string ⟨l.toArray⟩
theorem Fa {a b:List UInt8} : ((⟨a.toArray⟩:ByteArray) == ⟨b.toArray⟩)=(a == b):=by
 show (a.toArray == b.toArray)=_
 simp
theorem Fo {P:Program} {kt:TypeId} (h:P.underlying kt=some .string):xY P kt gx where
 ty:=⟨_,h,fun a b=>by simp only[Instr.sameNow,gx,Fa],fun a e=>tz h trivial e 9999 _⟩
 bits:=fun a b hab=>by
  have:a=b:=by simpa using hab
  subst this
  show ((⟨a.toArray⟩:ByteArray) == ⟨a.toArray⟩)=true
  rw[Fa]; simp
def nP (l:List aJ):List Int:=l.flatMap fun x=>[x.aD+1,x.dot]
theorem Na (l:List aJ):(nP l).length=2 * l.length:=by
 induction l with
 | nil=>rfl
 | cons x l ih=>simp only[nP,List.flatMap_cons,R5,Rp,RF] at ih ⊢; omega
theorem y0:∀ l:List aJ,j9 ((nP l).map fun n=>[gy n])=some (fe l)
 | []=>rfl
 | x :: l=>by
  have ih:=y0 l
  simp only[nP,fe,List.flatMap_cons,RM,Sm,RE,j9] at ih ⊢
  rw[ih]; rfl
theorem NV {x:Int} (h1:0≤x) (h2:x < 256):IntKind.wrap .u8 x=x:=by
 unfold IntKind.wrap
 have e1:(2:Int) ^ IntKind.u8.bits=256:=by rfl
 have e2:IntKind.u8.signed=false:=by rfl
 simp only[e1,e2,SL,Ru,if_false]
 omega
theorem Pp {P:Program} {T:Env} {H:View} {K:V→View→Prop} {w:bX (T,H,K)} {t e d ty:TypeId} {x:Operand} {u:V} {xs:List (List V)} {rd:List Nat} {l:List UInt8} {k:Nat} (hu:P.underlying t=some (.slice e)) (he:P.underlying e=some (.int .u8)) (hd:P.underlying d=some .string)
  (hx:ev T x=u) (hl:bR H u=some (xs,rd)) (hn:cY u=some k) (ht:j9 xs=some l) (hk:K (.val (gx l)) H):jD P (.convert t d x) ty T H K w:=by
 intro n _
 have hb:jV P t d=true:=by simp[jV,hu]
 refine ⟨.val (gx l),.none,rd,?_,hk⟩
 simp only[sI,bV,oper]
 rw[Ra hb,hx]
 simp[ll,hu,he,hd,hl,hn,ht,gx]
def sX:SC :=
 .seq (an [bz 15 .lss 14 13]) <|
 .seq (.cond (.tmp 15) (.skip) (.exit 0)) <|
 .seq (.block 1 (.seq (an [aY 16 2 12 14,bM 17 2 16,((some 7),.op (.alloc [(.val (.int .i64 0)),(.val (.int .i64 0))])),(none,.op (.store 2 (.tmp 7) (.tmp 17)))]) <|
 .seq (an [bM 19 4 2,bM 20 2 7,bJ 21 50 [19,20],aj 18 21,kH 22 0 18,kH 23 1 18,aj 8 22,aj 9 23]) <|
 .seq (an [aj 24 9]) <|
 .cond (.tmp 24) (.seq (an [bM 25 4 2,aj 26 8,bJ 27 111 [25,26],aj 10 27]) <|
 an [aj 28 5,aj 29 10,aj 30 5,aj 31 10,((some 32),.op (.old (.lookup 98 (.tmp 30) (.tmp 31) false) 27)),aC 33 0 7,ay 34 33,aC 35 1 7,ay 36 35,aR 37 .add 36 1,((some 38),.op (.build [(.val (.int .i64 0)),(.val (.int .i64 0))] [(0,1,(.tmp 34)),(1,1,(.tmp 37))])),((some 39),.op (.c4 1 2 [(.val (.int .i64 0)),(.val (.int .i64 0))] [(0,(.tmp 38))])),((some 40),.op (.app 2 16 (.tmp 32) (.tmp 39))),(none,.op (.old (.mapUpdate 98 (.tmp 28) (.tmp 29) (.tmp 40)) 0))]) (.skip))) <|
 an [aR 41 .add 14 1,aj 14 41]
def vo:SF:=⟨.seq (an [dN 2 0,((some 4),.op (.bN (.val (.val (.map none)))))]) <|
 .seq (an [((some 11),.op (.mJ)),aj 5 11]) <|
 .seq (.seq (an [aj 12 1,bj 13 12,bA 14 0]) <|
 .block 0 (.loop sX)) <|
 .seq (an [aj 42 5,aj 4 42]) <|
 .ret,
 [.tmp 4],43⟩
theorem yT:aU Tryz.prog 63 [2]=some vo:=by kernel_rfl
def u9:SC :=
 .seq (an [bz 9 .lss 8 7]) <|
 .seq (.cond (.tmp 9) (.skip) (.exit 0)) <|
 .seq (.block 1 (.seq (an [aY 10 2 6 8,bM 11 2 10,((some 5),.op (.alloc [(.val (.int .i64 0)),(.val (.int .i64 0))])),(none,.op (.store 2 (.tmp 5) (.tmp 11)))]) <|
 an [aj 12 3,aC 13 0 5,ay 14 13,aR 15 .add 14 1,((some 16),.op (.conv .u8 (.tmp 15))),aC 17 1 5,ay 18 17,((some 19),.op (.conv .u8 (.tmp 18))),((some 20),.op (.c4 2 1 [(.val (.int .u8 0))] [(0,(.tmp 16)),(1,(.tmp 19))])),((some 21),.op (.app 1 1 (.tmp 12) (.tmp 20))),aj 3 21])) <|
 an [aR 22 .add 8 1,aj 8 22]
def Aw:SF:=⟨.seq (.region false [⟨none,[((some 2),.op (.bN (.val (.val (.string ⟨#[]⟩)))))]⟩]) <|
 .seq (an [((some 3),.op (.bN (.val (.emp 1))))]) <|
 .seq (.seq (an [aj 6 0,bj 7 6,bA 8 0]) <|
 .block 0 (.loop u9)) <|
 .seq (an [aj 23 3,((some 24),.op (.old (.convert 91 9 (.tmp 23)) 9)),aj 2 24]) <|
 .ret,
 [.tmp 2],25⟩
theorem C4:aU Tryz.prog 62 []=some Aw:=by kernel_rfl
set_option maxHeartbeats 4000000 in
theorem EW (g:ao) (hf:g.dL) (l:List aJ) (hl:∀ x∈l,dc g x) (hn:l.length≤10000) (u:V) (H:View) (ho:bc H u 2 (bT l)):aB Tryz.prog 62 [u] H fun r H'=>r=.val (gx (fe l))∧∀ id,H id≠.dead→H' id=H id:=by
 refine aB.of mixed C4 ?_
 have hlen:cY u=some l.length:=by rw[ho.len,bI]
 have hru:=hf.rules
 simp (disch:=omega) only [↓wr,seval,wq,ah,ag,ak,aa,ab,af,ai,ae,Aw,hlen]
 refine bg.up l.length (fun i T H'=>∃ b:V,bc H' b 1 ((nP (l.take i)).map fun n=>[gy n])∧ei H H' b∧T 3=b∧T 6=u∧T 7=gi l.length∧T 8=gi i) ⟨.emp 1,.nil,.emp,rfl,rfl,rfl,rfl⟩ ?_
 rintro i k T H' hk ⟨b,hb,fb,t3,t6,t7,t8⟩
 simp (disch:=omega) only [↓wr,seval,wq,ah,ag,ak,aa,ab,af,ai,ae,u9,t3,t6,t7,t8]
 refine aq.dec (fun hc=>?_) (fun hc=>?_)
 ·have hx:l[i]?=some (l[i]'(by omega)):=Q7 (by omega)
  have hxm:=hl _ (Rj (show i < l.length by omega))
  have htk:l.take (i+1)=l.take i ++ [l[i]'(by omega)]:=by rw[RG,hx]; rfl
  generalize l[i]'(by omega)=x at hx hxm htk
  have hr6:=iz hf hxm.1
  have hx1:=hxm.1
  have hx2:=hxm.2
  obtain ⟨id,hu,hid⟩:=ho.sl (by rw[bI]; omega)
  have hid':H' id=.arr 2 (bT l):=by rw[(fb id (by rw[hid]; simp)).1,hid]
  rw[bI] at hu
  subst hu
  have hkl:=Na (l.take i)
  rw[Sa] at hkl
  simp (disch:=omega) only [↓wr,seval,wq,ah,ag,ak,aa,ab,af,ai,ae,t3,t6,t7,t8,hid',yX hx,NV (x:=x.aD+1) (by omega) (by omega),NV (x:=x.dot) (by omega) (by omega)]
  refine ⟨by omega,by rw[bI]; omega,?_⟩
  intro q hq q2 hq2
  obtain ⟨hne,hq3⟩:=fZ hq2 (by simp)
  rw[Q9 hne] at hq3
  have hqH:∀ j,H j≠.dead→j≠q∧j≠q2:=fun j hj=>by
   have h1:=(fb j hj).1
   exact ⟨fun e=>hj (by rw[e] at h1 ⊢; rw[← h1,hq]),fun e=>hj (by rw[e] at h1 ⊢; rw[← h1,hq3])⟩
  have hb3:∀ a0 a1 a2,bc (((H'.set q a0).set q a1).set q2 a2) b 1 ((nP (l.take i)).map fun n=>[gy n]):=fun a0 a1 a2=>hb.keep fun id hid=>by
   have h1:=(hb.live hid).1
   have e1:id≠q:=by rintro rfl; rw[hq] at h1; simp at h1
   have e2:id≠q2:=by rintro rfl; rw[hq3] at h1; simp at h1
   simp[View.set,e1,e2]
  have hset:∀ a0 a1 a2 j,H j≠.dead→(((H'.set q a0).set q a1).set q2 a2) j=H j:=fun a0 a1 a2 j hj=>by
   obtain ⟨e1,e2⟩:=hqH j hj
   simp[View.set,e1,e2,(fb j hj).1]
  have hel:∀ (a0 a1:dh) (e1 e2:List V),bR (((H'.set q a0).set q a1).set q2 (.arr 1 [e1,e2])) (.sl q2 0 2 1)=some ([e1,e2],[q2]):=fun a0 a1 e1 e2=>by simp[bR,View.set]
  simp (disch:=omega) only [↓wr,seval,wq,ah,ag,ak,aa,ab,af,ai,ae,hel,t3]
  refine oU (hb3 _ _ _) (by simp[aS]) (by unfold aK; simp; omega) (by unfold aK; simp; omega) ?_
  intro b2 H5 o5 l5
  simp (disch:=omega) only [↓wr,seval,wq,ah,ag,ak,aa,ab,af,ai,ae,t6,t7,t8]
  refine aQ hk (by omega) ⟨b2,?_,fun j hj=>?_,rfl,t6,t7,rfl⟩
  ·have:(nP (l.take (i+1))).map (fun n=>[gy n])=(nP (l.take i)).map (fun n=>[gy n]) ++ [[gy (x.aD+1)],[gy x.dot]]:=by
    rw[htk]; simp[nP]
   rw[this]; exact o5
  ·obtain ⟨k1,k2⟩:=l5 j (by rw[hset _ _ _ j hj]; exact hj) (fb j hj).2
   exact ⟨by rw[k1,hset _ _ _ j hj],k2⟩
 ·rw[Rz (by omega)] at hb
  simp (disch:=omega) only [↓wr,seval,wq,ah,ag,ak,aa,ab,af,ai,ae,t3]
  have hel:∃ rd,bR H' b=some ((nP l).map (fun n=>[gy n]),rd):=by
   rcases hb with ⟨e,k,rfl⟩ | ⟨n,rfl,hn⟩
   ·exact ⟨[],by rw[e]; rfl⟩
   ·rcases hq:(nP l).map (fun n=>[gy n]) with _ | ⟨y,ys⟩
    ·exact ⟨[],by simp[bR]⟩
    ·rw[hq] at hn
     exact ⟨[n],by
      have:=zd (H:=H') n 0 ys.length 1 1 (y :: ys) hn (by simp)
      rw[Rp,this]; simp⟩
  obtain ⟨rd,hel⟩:=hel
  refine Pp (u:=b) (xs:=(nP l).map fun n=>[gy n]) (rd:=rd) (k:=((nP l).map fun n=>[gy n]).length) (l:=fe l) Tryz.underlying91 Tryz.underlying5 Tryz.underlying9 (by simp (disch:=omega) only [↓wr,seval,wq,ah,ag,ak,aa,ab,af,ai,ae]; exact t3) hel hb.len (y0 l) ?_
  simp (disch:=omega) only [↓wr,seval,wq,ah,ag,ak,aa,ab,af,ai,ae]
  exact fun id hid=>(fb id hid).1
theorem wy (g:ao) (p:List aJ) (y:aJ) (s:Int):bC g (p ++ [y]) s=if bO g y=(s,true) then bC g p s ++ [⟨y.aD,y.dot+1⟩] else bC g p s:=by
 unfold bC
 rw[Sw,RI]
 split
 ·rename_i h; simp[h]
 ·rename_i h; simp[h]
def iw (g:ao) (p:List aJ) (A:bF Int):List cb:=A.map fun x=>(x.2.1,2,bT (bC g p (aZ g x.1.toNat)))
structure rn (g:ao) (p:List aJ) (H0 H:View) (q:Nat) (A:bF Int):Prop where
 mp:∃ c,H q=.map (bW (Value.int .i64) A) c
 nd:(A.map (·.1)).Nodup
 own:bk H (iw g p A)
 ne:∀ x∈A,0≤x.1∧bC g p (aZ g x.1.toNat)≠[]
 all:∀ k:Nat,bC g p (aZ g k)≠[]→((k:Nat):Int)∈A.map (·.1)
 old:∀ id,H0 id≠.dead→H id=H0 id
 q0:H0 q=.dead
 new:∀ x∈A,∀ id,owner x.2.1=some id→H0 id=.dead
theorem getM_none {A:bF Int} {k:Int} : getM A k=none↔k ∉ A.map (·.1):=by
 induction A with
 | nil=>simp[getM]
 | cons x A ih =>
  unfold getM at ih ⊢
  rw[SZ]
  by_cases h:k=x.1
  ·simp[h]
  ·simp only[beq_eq_false_iff_ne.2 h,RE,Rm,not_or]
   rw[ih]
   simp[h]
theorem tS {A:bF Int} {k:Int} {v:V} (h:getM A k=some v):∃ A1 A2 b,A=A1 ++ (k,v,b) :: A2∧k ∉ A1.map (·.1)∧∀ v' c,bu k v' c A=A1 ++ (k,v',b) :: A2:=by
 induction A with
 | nil=>simp[getM] at h
 | cons x A ih =>
  unfold getM at h ih
  rw[SZ] at h
  by_cases e:k=x.1
  ·simp only[e,SP,Rk,Q8] at h
   refine ⟨[],A,x.2.2,by rw[e,← h]; rfl,by simp,fun v' c=>?_⟩
   rw[bu,e,SP,Ra rfl]; rfl
  ·rw[beq_eq_false_iff_ne.2 e] at h
   obtain ⟨A1,A2,b,rfl,h2,h3⟩:=ih h
   refine ⟨x :: A1,A2,b,rfl,by simp only[RE,Rm,not_or]; exact ⟨e,h2⟩,fun v' c=>?_⟩
   rw[bu,beq_eq_false_iff_ne.2 e,h3]; rfl
theorem Nn {A:bF Int} {k:Int} (h:k ∉ A.map (·.1)) (v:V) (c:Nat):bu k v c A=A ++ [(k,v,c)]:=by
 induction A with
 | nil=>rfl
 | cons x A ih =>
  simp only[RE,Rm,not_or] at h
  rw[bu,beq_eq_false_iff_ne.2 h.1,ih h.2]; rfl
theorem rn.skip {g:ao} {p:List aJ} {H0 H:View} {q:Nat} {A:bF Int} (h:rn g p H0 H q A) {y:aJ} (hy:(bO g y).2=false):rn g (p ++ [y]) H0 H q A:=by
 have e:∀ s,bC g (p ++ [y]) s=bC g p s:=fun s=>by rw[wy,Q9 (fun h=>by rw[h] at hy; simp at hy)]
 have e2:iw g (p ++ [y]) A=iw g p A:=by simp only[iw,e]
 exact ⟨h.mp,h.nd,by rw[e2]; exact h.own,fun x hx=>by rw[e]; exact h.ne x hx,fun k hk=>by rw[e] at hk; exact h.all k hk,h.old,h.q0,h.new⟩
theorem rn.val {g:ao} {p:List aJ} {H0 H:View} {q:Nat} {A:bF Int} (h:rn g p H0 H q A) (r:Nat):bc H ((getM A r).getD (.emp 1)) 2 (bT (bC g p (aZ g r))):=by
 cases hg:getM A r with
 | none =>
  have hn:=getM_none.1 hg
  have:bC g p (aZ g r)=[]:=RY fun hne=>hn (h.all r hne)
  rw[this]; exact .nil
 | some v =>
  obtain ⟨A1,A2,b,rfl,_,_⟩:=tS hg
  have:=h.own.1 (v,2,bT (bC g p (aZ g r))) (by simp[iw])
  exact this
theorem rn.put {g:ao} {p:List aJ} {H0 H:View} {q:Nat} {A:bF Int} (h:rn g p H0 H q A) {y:aJ} {r:Nat} (hy:bO g y=(aZ g r,true)) {H1:View} {v':V} (o1:bc H1 v' 2 (bT (bC g p (aZ g r) ++ [⟨y.aD,y.dot+1⟩]))) (l1:Left H H1 ((getM A r).getD (.emp 1)) v') (c c':Nat) :
  rn g (p ++ [y]) H0 (H1.set q (.map (bW (Value.int .i64) (bu (r:Int) v' c A)) c')) q (bu (r:Int) v' c A):=by
 obtain ⟨c0,hq⟩:=h.mp
 have hr:bC g (p ++ [y]) (aZ g r)=bC g p (aZ g r) ++ [⟨y.aD,y.dot+1⟩]:=by rw[wy,Ra hy]
 have hne:∀ x:Int × V × Nat,0≤x.1→x.1≠r→bC g (p ++ [y]) (aZ g x.1.toNat)=bC g p (aZ g x.1.toNat):=fun x h0 hx=>by
  rw[wy,Q9]
  intro e
  rw[hy] at e
  simp only[Rb,and_true] at e
  have h1:=tP g r
  rw[e,tP] at h1
  omega
 have howq:owner ((getM A r).getD (.emp 1))≠some q:=fun e=>by
  have:=((h.val r).live e).1
  rw[hq] at this; simp at this
 have hq1:H1 q≠.dead∧owner v'≠some q:=by
  obtain ⟨k1,k2⟩:=l1 q (by rw[hq]; simp) howq
  exact ⟨by rw[k1,hq]; simp,k2⟩
 have hold:∀ id,H0 id≠.dead→id≠q∧owner ((getM A r).getD (.emp 1))≠some id:=fun id hid=>by
  refine ⟨fun e=>hid (by rw[e]; exact h.q0),fun e=>?_⟩
  cases hg:getM A r with
  | none=>rw[hg] at e; simp[owner] at e
  | some v =>
   rw[hg] at e
   obtain ⟨A1,A2,b,rfl,_,_⟩:=tS hg
   exact hid (h.new (r,v,b) (by simp) id e)
 have hold2:∀ id,H0 id≠.dead→(H1.set q (.map (bW (Value.int .i64) (bu (r:Int) v' c A)) c')) id=H0 id:=fun id hid=>by
  simp only[View.set]
  rw[Q9 (hold id hid).1,(l1 id (by rw[h.old id hid]; exact hid) (hold id hid).2).1,h.old id hid]
 have hv':∀ id,owner v'=some id→H0 id=.dead:=fun id e=>Th fun hid=>(l1 id (by rw[h.old id hid]; exact hid) (hold id hid).2).2 e
 have hset:∀ {L:List cb},bk H1 L→(∀ x∈L,owner x.1≠some q)→bk (H1.set q (.map (bW (Value.int .i64) (bu (r:Int) v' c A)) c')) L:=fun hL hx=>⟨fun x hxm=>(hL.1 x hxm).other (hx x hxm),hL.2⟩
 have hmapq:∀ x∈A,owner x.2.1≠some q:=fun x hx=>h.own.w6 hq _ (Rv.2 ⟨x,hx,rfl⟩)
 cases hg:getM A r with
 | none =>
  have hn:=getM_none.1 hg
  rw[hg] at l1
  rw[Nn hn] at *
  have e1:iw g (p ++ [y]) (A ++ [((r:Int),v',c)])=iw g p A ++ [(v',2,bT (bC g p (aZ g r) ++ [⟨y.aD,y.dot+1⟩]))]:=by
   simp only[iw,RI,RE,List.map_nil,Rs,hr]
   congr 1
   refine Tp fun x hx=>?_
   rw[hne x (h.ne x hx).1 (fun e=>hn (Rv.2 ⟨x,hx,e⟩))]
  refine ⟨⟨c',by simp[View.set]⟩,?_,?_,fun x hx=>?_,fun k hk=>?_,hold2,h.q0,fun x hx id e=>?_⟩
  ·rw[RI,RV]
   refine ⟨h.nd,by simp,fun a ha b hb e=>?_⟩
   simp at hb; subst hb; subst e; exact hn ha
  ·rw[e1]
   have ho:bk H1 ((v',2,bT (bC g p (aZ g r) ++ [⟨y.aD,y.dot+1⟩])) :: iw g p A):=(h.own.emp (k:=1) (sz:=2)).left (by simpa using o1) l1
   refine hset (ho.perm (List.perm_append_comm (l₁:=[_]))) fun x hx=>?_
   rcases Ry.1 hx with hx | hx
   ·obtain ⟨z,hz,rfl⟩:=Rv.1 hx
    exact hmapq z hz
   ·simp at hx; subst hx; exact hq1.2
  ·rcases Ry.1 hx with hx | hx
   ·rw[hne x (h.ne x hx).1 (fun e=>hn (Rv.2 ⟨x,hx,e⟩))]; exact h.ne x hx
   ·simp at hx; subst hx; simp[hr]
  ·rw[RI,Ry]
   by_cases e:k=r
   ·right; simp[e]
   ·left
    refine h.all k ?_
    have:=hne ((k:Int),.any,0) (by simp) (by simp only; omega)
    simp only[Rs] at this
    rw[← this]; exact hk
  ·rcases Ry.1 hx with hx | hx
   ·exact h.new x hx id e
   ·simp at hx; subst hx; exact hv' id e
 | some v =>
  obtain ⟨A1,A2,b,rfl,hn1,hput⟩:=tS hg
  rw[hg] at l1
  rw[hput] at *
  have hnd:=h.nd
  rw[RI,RE,RV] at hnd
  have hn2:(r:Int) ∉ A2.map (·.1):=(RW.1 hnd.2.1).1
  have hx1:∀ x∈A1,x.1≠r:=fun x hx e=>hn1 (Rv.2 ⟨x,hx,e⟩)
  have hx2:∀ x∈A2,x.1≠r:=fun x hx e=>hn2 (Rv.2 ⟨x,hx,e⟩)
  have hm1:∀ x∈A1,x∈A1 ++ ((r:Int),v,b) :: A2:=fun x hx=>SJ _ hx
  have hm2:∀ x∈A2,x∈A1 ++ ((r:Int),v,b) :: A2:=fun x hx=>SN _ (RN _ hx)
  have e1:iw g (p ++ [y]) (A1 ++ ((r:Int),v',b) :: A2)=iw g p A1 ++ (v',2,bT (bC g p (aZ g r) ++ [⟨y.aD,y.dot+1⟩])) :: iw g p A2:=by
   simp only[iw,RI,RE,Rs,hr]
   congr 1
   ·refine Tp fun x hx=>?_
    rw[hne x (h.ne x (hm1 x hx)).1 (hx1 x hx)]
   ·congr 1
    refine Tp fun x hx=>?_
    rw[hne x (h.ne x (hm2 x hx)).1 (hx2 x hx)]
  have e0:iw g p (A1 ++ ((r:Int),v,b) :: A2)=iw g p A1 ++ (v,2,bT (bC g p (aZ g r))) :: iw g p A2:=by
   simp only[iw,RI,RE,Rs]
  refine ⟨⟨c',by simp[View.set]⟩,by simpa using h.nd,?_,fun x hx=>?_,fun k hk=>?_,hold2,h.q0,fun x hx id e=>?_⟩
  ·rw[e1]
   have h0:=h.own
   rw[e0] at h0
   have ho:bk H1 ((v',2,bT (bC g p (aZ g r) ++ [⟨y.aD,y.dot+1⟩])) :: (iw g p A1 ++ iw g p A2)):=(h0.perm R6).left o1 l1
   refine hset (ho.perm R6.symm) fun x hx=>?_
   rcases Ry.1 hx with hx | hx
   ·obtain ⟨z,hz,rfl⟩:=Rv.1 hx
    exact hmapq z (hm1 z hz)
   ·rcases Rm.1 hx with rfl | hx
    ·exact hq1.2
    ·obtain ⟨z,hz,rfl⟩:=Rv.1 hx
     exact hmapq z (hm2 z hz)
  ·rcases Ry.1 hx with hx | hx
   ·rw[hne x (h.ne x (hm1 x hx)).1 (hx1 x hx)]; exact h.ne x (hm1 x hx)
   ·rcases Rm.1 hx with rfl | hx
    ·simp[hr]
    ·rw[hne x (h.ne x (hm2 x hx)).1 (hx2 x hx)]; exact h.ne x (hm2 x hx)
  ·by_cases e:k=r
   ·subst e; simp
   ·have:=hne ((k:Int),.any,0) (by simp) (by simp only; omega)
    simp only[Rs] at this
    rw[this] at hk
    have:=h.all k hk
    simpa using this
  ·rcases Ry.1 hx with hx | hx
   ·exact h.new x (hm1 x hx) id e
   ·rcases Rm.1 hx with rfl | hx
    ·exact hv' id e
    ·exact h.new x (hm2 x hx) id e
theorem rn.fresh {g:ao} {p:List aJ} {H0 H:View} {q:Nat} {A:bF Int} (h:rn g p H0 H q A) {n:Nat} (hn:H n=.dead) (o:dh):rn g p H0 (H.set n o) q A:=by
 obtain ⟨c,hq⟩:=h.mp
 have e1:q≠n:=by rintro rfl; rw[hn] at hq; simp at hq
 refine ⟨⟨c,by simp[View.set,e1,hq]⟩,h.nd,h.own.fresh hn,h.ne,h.all,fun id hid=>?_,h.q0,h.new⟩
 have e2:id≠n:=by rintro rfl; rw[h.old id hid] at hn; exact hid hn
 simp[View.set,e2,h.old id hid]
set_option maxHeartbeats 8000000 in
theorem Mx (g:ao) (hf:g.dL) (l:List aJ) (hl:∀ x∈l,dc g x) (hn:l.length≤10000) (u:V) (H:View) (ho:bc H u 2 (bT l)):aB Tryz.prog 63 [.agg (aw g),u] H fun r H'=>∃ q A,r=.mp q∧rn g l H H' q A:=by
 refine aB.of mixed yT ?_
 have hlen:cY u=some l.length:=by rw[ho.len,bI]
 have hT:=hf.av
 have hN:=hf.az
 simp (disch:=omega) only [↓wr,seval,wq,ah,ag,ak,aa,ab,af,ai,ae,vo,aw,encS,hlen]
 intro q hq
 have h0:rn g [] H (H.set q (.map [] 0)) q []:=⟨⟨0,by simp[View.set,bW]⟩,by simp,⟨by simp[iw],by simp[iw]⟩,by simp,fun k hk=>absurd rfl hk,fun id hid=>by
  have:id≠q:=by rintro rfl; exact hid hq
  simp[View.set,this],hq,by simp⟩
 generalize H.set q (.map [] 0)=H1 at h0
 try simp (disch:=omega) only [↓wr,seval,wq,ah,ag,ak,aa,ab,af,ai,ae]
 refine bg.up l.length (fun i T H'=>∃ A,rn g (l.take i) H H' q A∧T 2=.aL (aw g) 0∧T 5=.mp q∧T 12=u∧T 13=gi l.length∧T 14=gi i) ⟨[],h0,rfl,rfl,rfl,rfl,rfl⟩ ?_
 clear h0 hq
 rintro i k T H' hk ⟨A,hM,t2,t5,t12,t13,t14⟩
 simp (disch:=omega) only [↓wr,seval,wq,ah,ag,ak,aa,ab,af,ai,ae,sX,t2,t5,t12,t13,t14]
 refine aq.dec (fun hc=>?_) (fun hc=>?_)
 ·have hx:l[i]?=some (l[i]'(by omega)):=Q7 (by omega)
  have hxm:=hl _ (Rj (show i < l.length by omega))
  have htk:l.take (i+1)=l.take i ++ [l[i]'(by omega)]:=by rw[RG,hx]; rfl
  generalize l[i]'(by omega)=x at hx hxm htk
  have h1:=EP g hf x hxm
  cases hny:bO g x with
  | mk s okb =>
  have hsb:=As hf hxm hny
  rw[hny] at h1
  have hr6:=iz hf hxm.1
  have hx2:=hxm.2
  obtain ⟨id,hu,hid⟩:=ho.sl (by rw[bI]; omega)
  have hid':H' id=.arr 2 (bT l):=by rw[hM.old id (by rw[hid]; simp),hid]
  rw[bI] at hu
  subst hu
  simp only[aw,encS,gW] at h1
  simp (disch:=omega) only [↓wr,seval,wq,ah,ag,ak,aa,ab,af,ai,ae,t2,t5,t12,t13,t14,hid',yX hx]
  refine ⟨by omega,by rw[bI]; omega,?_⟩
  intro q1 hq1
  rw[set_set]
  have hqq:(H'.set q1 (.arr 2 [[gi x.aD,gi x.dot]])) q1=.arr 2 [[gi x.aD,gi x.dot]]:=by simp[View.set]
  have hM2:=hM.fresh hq1 (.arr 2 [[gi x.aD,gi x.dot]])
  generalize H'.set q1 (.arr 2 [[gi x.aD,gi x.dot]])=H4 at hqq hM2
  clear hM hq1 hid'
  try simp (disch:=omega) only [↓wr,seval,wq,ah,ag,ak,aa,ab,af,ai,ae,t2,t5,hqq,aw,encS]
  refine aF.pure h1 (by kernel_rfl) ?_
  cases okb with
  | false =>
   simp (disch:=omega) only [↓wr,seval,wq,ah,ag,ak,aa,ab,af,ai,ae,t2,t5,t12,t13,t14]
   exact aQ hk (by omega) ⟨A,by rw[htk]; exact hM2.skip (by rw[hny]),t2,t5,t12,t13,rfl⟩
  | true =>
  have hh:=nF hf hxm hny
  obtain ⟨r1,r2⟩:=nM hh
  obtain ⟨r3,r4⟩:=E3 r1
  obtain ⟨r,hr⟩:∃ r:Nat,ji g s=r:=⟨(ji g s).toNat,by omega⟩
  rw[hr,Rs] at r4
  have h2:=Nr g hf s hsb
  rw[hr] at h2
  simp only[aw,encS] at h2
  simp (disch:=omega) only [↓wr,seval,wq,ah,ag,ak,aa,ab,af,ai,ae,t2,t5,aw,encS]
  refine aF.pure h2 (by kernel_rfl) ?_
  obtain ⟨c,hmq⟩:=hM2.mp
  simp (disch:=omega) only [↓wr,seval,wq,ah,ag,ak,aa,ab,af,ai,ae,t5]
  refine wW (kt:=3) (et:=27) (z:=.emp 1) (by kernel_rfl) (by kernel_rfl) (jX .i64 Tryz.underlying3) (id:=q) (c:=c) (m:=A) (k:=(r:Int)) (by simp (disch:=omega) only [↓wr,seval,wq,ah,ag,ak,aa,ab,af,ai,ae]) (by simp (disch:=omega) only [↓wr,seval,wq,ah,ag,ak,aa,ab,af,ai,ae]) hmq ?_
  have hov:=hM2.val r
  have hqq1:∀ n o,H4 n=.dead→(H4.set n o) q1=.arr 2 [[gi x.aD,gi x.dot]]:=fun n o hn=>by
   have:q1≠n:=by rintro rfl; rw[hqq] at hn; simp at hn
   simp[View.set,this,hqq]
  try simp (disch:=omega) only [↓wr,seval,wq,ah,ag,ak,aa,ab,af,ai,ae,hqq]
  intro q2 hq2
  have hM3:=hM2.fresh hq2 (.arr 2 [[gi x.aD,gi (x.dot+1)]])
  have hov3:=hM3.val r
  have hel:bR (H4.set q2 (.arr 2 [[gi x.aD,gi (x.dot+1)]])) (.sl q2 0 1 2)=some ([[gi x.aD,gi (x.dot+1)]],[q2]):=by simp[bR,View.set]
  simp (disch:=omega) only [↓wr,seval,wq,ah,ag,ak,aa,ab,af,ai,ae,hel]
  have hml:=x9 (g:=g) (l:=l.take i) (s:=aZ g r)
  rw[Sa] at hml
  refine oU hov3 (by simp[aS]) (by unfold aK; rw[bI]; simp; omega) (by unfold aK; rw[bI]; simp; omega) ?_
  intro v' H6 o6 l6
  obtain ⟨c3,hmq3⟩:=hM3.mp
  have howq:owner ((getM A (r:Int)).getD (.emp 1))≠some q:=fun e=>by
   have:=(hov3.live e).1
   rw[hmq3] at this; simp at this
  have hmq6:H6 q=.map (bW (Value.int .i64) A) c3:=by
   rw[(l6 q (by rw[hmq3]; simp) howq).1,hmq3]
  simp (disch:=omega) only [↓wr,seval,wq,ah,ag,ak,aa,ab,af,ai,ae,t5]
  refine sQ (kt:=3) (et:=27) (by kernel_rfl) (jX .i64 Tryz.underlying3) (id:=q) (c:=c3) (m:=A) (k:=(r:Int)) (v:=v') (by simp (disch:=omega) only [↓wr,seval,wq,ah,ag,ak,aa,ab,af,ai,ae]) (by simp (disch:=omega) only [↓wr,seval,wq,ah,ag,ak,aa,ab,af,ai,ae]) (by simp (disch:=omega) only [↓wr,seval,wq,ah,ag,ak,aa,ab,af,ai,ae]) hmq6 ?_
  intro c'
  simp (disch:=omega) only [↓wr,seval,wq,ah,ag,ak,aa,ab,af,ai,ae,t2,t5,t12,t13,t14]
  have hfin:=hM3.put (y:=x) (r:=r) (by rw[hny,r4]) (H1:=H6) (v':=v') (by
   have e:bT (bC g (l.take i) (aZ g r) ++ [⟨x.aD,x.dot+1⟩])=bT (bC g (l.take i) (aZ g r)) ++ [[gi x.aD,gi (x.dot+1)]]:=by simp[bT,gW]
   rw[e]; exact o6) l6 c3 c'
  exact aQ hk (by omega) ⟨bu (r:Int) v' c3 A,by rw[htk]; exact hfin,t2,t5,t12,t13,rfl⟩
 ·rw[Rz (by omega)] at hM
  simp (disch:=omega) only [↓wr,seval,wq,ah,ag,ak,aa,ab,af,ai,ae,t5]
  exact ⟨q,A,rfl,hM⟩
theorem aF.still {P:Program} {f:FuncId} {vs:List V} {H:View} {K:V→View→Prop} {w:bX (H,K)} {Φ:V→View→Prop} (hc:aB P f vs H Φ) (hs:∀ r H',Φ r H'→∀ id,H id≠.dead→H' id=H id) (hk:∀ r H',Φ r H'→K r H'):aF P true f vs H K w:=by
 unfold aF
 simp only[if_true]
 exact (hc.mono fun r H' h=>⟨hs r H' h,hk r H' h⟩).IQ
theorem bk.join {H:View} {L M:List cb} (h:bk H L) (k:bk H M) (hd:∀ x∈L,∀ y∈M,∀ id,owner x.1=some id→owner y.1≠some id):bk H (L ++ M):=by
 refine ⟨fun x hx=>?_,?_⟩
 ·rcases Ry.1 hx with hx | hx
  ·exact h.1 x hx
  ·exact k.1 x hx
 ·rw[List.filterMap_append,RV]
  refine ⟨h.2,k.2,fun a ha b hb e=>?_⟩
  obtain ⟨x,hx,hxa⟩:=Sf.1 ha
  obtain ⟨y,hy,hyb⟩:=Sf.1 hb
  subst e
  exact hd x hx y hy a hxa hyb
theorem bk.sub {H:View} {L M:List cb} (h:bk H L) (hs:M.Sublist L):bk H M :=
 ⟨fun x hx=>h.1 x (hs.subset hx),h.2.sublist (hs.filterMap _)⟩
theorem KJ {l:List aJ} (hs:cz l) (hn:l.length≤100000) (u:V) (H:View) (ho:bc H u 2 (bT l)):aB Tryz.prog 64 [u] H fun r H'=>H=H'∧bc H r 2 (bT l)∧(l≠[]→r=u):=by
 refine (GH l hn u H ho).mono ?_
 rintro r H' ⟨k1,k2,k3⟩
 rw[HW hs] at k2
 have e:H'=H:=by
  funext id
  by_cases h:owner u=some id
  ·rw[(ho.live h).1,(k2.live (by rw[k3]; exact h)).1]
  ·exact k1 id h
 subst e
 refine ⟨rfl,k2,fun hne=>?_⟩
 have hp:0 < (bT l).length:=by rw[bI]; exact To.2 hne
 obtain ⟨n,e1,_⟩:=ho.sl hp
 obtain ⟨m,e2,_⟩:=k2.sl hp
 rw[e1,e2] at k3
 simp only[owner,Q8] at k3
 rw[e1,e2,k3]
def pb (g:ao) (out:List aP) (M:bF (List UInt8)):Prop:=∀ l:List aJ,(∀ x∈l,dc g x)→getM M (fe l)=if findD out l < 0 then none else some (gi (findD out l))
theorem BS:∀ {a b:List aP},a.map aP.bh=b.map aP.bh→∀ k,findD a k=findD b k
 | [],[],_,_=>rfl
 | [],_ :: _,h,_=>by simp at h
 | _ :: _,[],h,_=>by simp at h
 | s :: a,t :: b,h,k=>by
  simp only[RE,Tu] at h
  rw[findD,findD,h.1,BS h.2 k]
theorem Ao:∀ (a:List aP) (s:aP) (k:List aJ),findD (a ++ [s]) k=if 0≤findD a k then findD a k else if s.bh=k then (a.length:Int) else -1
 | [],s,k=>by by_cases e:s.bh=k <;> simp[findD,e]
 | t :: a,s,k=>by
  have ih:=Ao a s k
  have h1:=tj a k
  rw[RM,findD,findD,ih]
  simp only[Rp]
  push_cast
  by_cases e:t.bh=k <;> by_cases e2:s.bh=k <;> by_cases h0:0≤findD a k <;> simp only[e,e2,h0,if_true,if_false] <;> (repeat' split) <;> omega
theorem pb.same {g:ao} {a b:List aP} {M:bF (List UInt8)} (h:pb g a M) (e:a.map aP.bh=b.map aP.bh):pb g b M:=fun l hl=>by
 rw[h l hl,BS e]
theorem pb.put {g:ao} (hf:g.dL) {out:List aP} {M:bF (List UInt8)} (h:pb g out M) {k:List aJ} (hk:∀ x∈k,dc g x) (hn:findD out k < 0) (c:Nat):pb g (out ++ [⟨k,[]⟩]) (bu (fe k) (gi out.length) c M):=fun l hl=>by
 have h1:=Ao out ⟨k,[]⟩ l
 have h2:=tj out l
 rw[nO]
 by_cases e:l=k
 ·subst e
  rw[Q9 (by omega),Ra rfl] at h1
  rw[h1,SP,Ra rfl,Q9 (by omega)]
 ·have e2:(fe l == fe k)=false:=beq_eq_false_iff_ne.2 fun h=>e (Et hf hl hk h)
  rw[e2,h l hl]
  simp only[Ru,if_false]
  by_cases h0:0≤findD out l
  ·rw[Ra h0] at h1
   rw[h1]
  ·rw[Q9 h0,Q9 (fun h=>e h.symm)] at h1
   rw[h1,Ra (by omega),Ra (by omega)]
theorem Fb {A:bF Int} {k:Nat} {v:V} (hn:(A.map (·.1)).Nodup) (h:getM A (k:Int)=some v):∃ b,(A.filter (fun x=>decide (((k:Nat):Int)≤x.1))).Perm (((k:Int),v,b) :: A.filter (fun x=>decide (((k+1:Nat):Int)≤x.1))):=by
 obtain ⟨A1,A2,b,rfl,hn1,_⟩:=tS h
 rw[RI,RE,RV] at hn
 have hn2:(k:Int) ∉ A2.map (·.1):=(RW.1 hn.2.1).1
 have e:∀ B:bF Int,(k:Int) ∉ B.map (·.1)→B.filter (fun x=>decide (((k:Nat):Int)≤x.1))=B.filter (fun x=>decide (((k+1:Nat):Int)≤x.1)):=fun B hB=>List.filter_congr fun x hx=>by
  have:x.1≠(k:Int):=fun e=>hB (Rv.2 ⟨x,hx,e⟩)
  rw[decide_eq_decide]; omega
 refine ⟨b,?_⟩
 rw[Sw,Sw,Td,Td,Ra (by simp),Q9 (by simp only[Rn]; push_cast; omega),e A1 hn1,e A2 hn2]
 exact R6
theorem PS {α:Type} {e u r:α} {S X Y:List α} (h:X.Perm (r :: Y)):(e :: u :: (S ++ X)).Perm (u :: ((S ++ [r,e]) ++ Y)):=by
 refine (List.Perm.swap _ _ _).trans (.cons _ ?_)
 rw[RO]
 refine ((h.append_left S).cons e).trans ?_
 exact R6.symm.trans ((List.Perm.swap _ _ _).append_left S)
theorem C7 {α:Type} {u k e:α} {S R:List α} : (u :: (S ++ k :: e :: R)).Perm (e :: u :: (S ++ k :: R)):=by
 have h:(S ++ k :: e :: R).Perm (e :: (S ++ k :: R)):=by
  have:=R6 (a:=e) (l₁:=S ++ [k]) (l₂:=R)
  simpa using this
 exact (h.cons u).trans (List.Perm.swap _ _ _)
def sP:SC :=
 .seq (an [bz 49 .lss 48 47]) <|
 .seq (.cond (.tmp 49) (.skip) (.exit 2)) <|
 .seq (.block 3 (.seq (an [aj 50 48,aj 9 50]) <|
 .seq (an [aj 51 8,aj 52 9,((some 53),.op (.old (.lookup 98 (.tmp 51) (.tmp 52) false) 27)),bJ 54 64 [53],aj 10 54]) <|
 .seq (.seq (an [aj 55 10,bj 56 55,aR 57 .eql 56 0]) <|
 .cond (.tmp 57) (.exit 3) (.skip)) <|
 .seq (an [aj 58 9,aj 11 58]) <|
 .seq (.seq (an [aj 59 9,aC 60 0 1,ay 61 60,bj 62 61,bz 63 .geq 59 62]) <|
 .cond (.tmp 63) (an [aC 64 0 1,ay 65 64,bj 66 65,aR 67 .sub 66 1,aj 68 9,bz 69 .sub 67 68,aj 11 69]) (.skip)) <|
 .seq (an [aj 71 6,aj 72 10,bJ 73 62 [72],((some 74),.op (.old (.lookup 97 (.tmp 71) (.tmp 73) true) 30)),aj 70 74,kH 75 0 70,kH 76 1 70,aj 12 75,aj 13 76]) <|
 .seq (.seq (an [aj 77 13,dm 78 77]) <|
 .cond (.tmp 78) (.seq (an [aj 79 5,bj 80 79,aj 12 80]) <|
 .seq (an [aj 81 6,aj 82 10,bJ 83 62 [82],aj 84 12,(none,.op (.old (.mapUpdate 97 (.tmp 81) (.tmp 83) (.tmp 84)) 0))]) <|
 an [aj 85 5,aj 86 10,((some 87),.op (.build [(.emp 1),(.emp 1)] [(0,1,(.tmp 86))])),((some 88),.op (.c4 1 2 [(.emp 1),(.emp 1)] [(0,(.tmp 87))])),((some 89),.op (.app 2 48 (.tmp 85) (.tmp 88))),aj 5 89]) (.skip)) <|
 an [aj 90 5,aj 91 7,aj 92 5,aj 93 7,aY 94 2 92 93,aC 95 1 94,ay 96 95,aj 97 11,aj 98 12,((some 99),.op (.build [(.val (.int .i64 0)),(.val (.int .i64 0))] [(0,1,(.tmp 97)),(1,1,(.tmp 98))])),((some 100),.op (.c4 1 2 [(.val (.int .i64 0)),(.val (.int .i64 0))] [(0,(.tmp 99))])),((some 101),.op (.app 2 16 (.tmp 96) (.tmp 100))),aY 102 2 90 91,aC 103 1 102,(none,.op (.store 1 (.tmp 103) (.tmp 101)))])) <|
 an [aR 104 .add 48 1,aj 48 104]
def sM:SC :=
 .seq (.seq (an [aj 26 7,aj 27 5,bj 28 27,bz 29 .lss 26 28]) <|
 .cond (.tmp 29) (.skip) (.exit 0)) <|
 .seq (.block 1 (.seq (.region true [⟨none,[bM 32 4 1,bM 33 4 1,aj 34 5,aj 35 7,aY 36 2 34 35,aC 37 0 36,ay 38 37,bJ 39 56 [33,38],bJ 40 63 [32,39],aj 8 40]⟩]) <|
 .seq (.seq (an [aC 41 0 1,ay 42 41,bj 43 42,aC 44 1 1,ay 45 44,bj 46 45,bz 47 .add 43 46,bA 48 0]) <|
 .block 2 (.loop sP)) <|
 .seq (an [aj 105 5,bj 106 105,aR 107 .gtr 106 300]) <|
 .cond (.tmp 107) (.seq (an [((some 2),.op (.bN (.val (.emp 1)))),bA 3 5]) <|
 .ret) (.skip))) <|
 an [aj 30 7,aR 31 .add 30 1,aj 7 31]
def vq:SF:=⟨.seq (an [dN 1 0,((some 2),.op (.bN (.val (.emp 1)))),bA 3 0]) <|
 .seq (.seq (an [bM 14 4 1,bJ 15 61 [14],dm 16 15]) <|
 .cond (.tmp 16) (.seq (an [((some 2),.op (.bN (.val (.emp 1)))),bA 3 1]) <|
 .ret) (.skip)) <|
 .seq (an [((some 17),.op (.build [(.val (.int .i64 0)),(.val (.int .i64 0))] [(0,1,(.val (.val (.int .i64 (-1)))))])),((some 18),.op (.c4 1 2 [(.val (.int .i64 0)),(.val (.int .i64 0))] [(0,(.tmp 17))])),aj 4 18]) <|
 .seq (an [aj 19 4,((some 20),.op (.build [(.emp 1),(.emp 1)] [(0,1,(.tmp 19))])),((some 21),.op (.c4 1 2 [(.emp 1),(.emp 1)] [(0,(.tmp 20))])),aj 5 21]) <|
 .seq (an [((some 22),.op (.mJ)),aj 23 4,bJ 24 62 [23],(none,.op (.old (.insert 97 (.tmp 22) (.tmp 24) (.const (.int .i64 0))) 0)),aj 25 22,aj 6 25]) <|
 .seq (.seq (an [bA 7 0]) <|
 .block 0 (.loop sM)) <|
 .seq (an [aj 108 5,aj 2 108,bA 3 0]) <|
 .ret,
 [.tmp 2,.tmp 3],109⟩
theorem zU:aU Tryz.prog 24 [1]=some vq:=by kernel_rfl
def QW (g:ao) (m:Nat) (T:Env) (H:View):Prop:=∃ (at_:Nat) (u:V) (S:List sk) (out:List aP) (q c:Nat) (M:bF (List UInt8)),m+at_=302∧out=S.map (fun x=>x.2.2)∧bk H ((u,2,iN S) :: qS S)∧dy g at_ 0 out∧1≤out.length∧out.length≤300∧gg g m at_ out=ct g∧at_≤out.length ∧
 H q=.map (bW gx M) c∧pb g out M∧T 1=.aL (aw g) 0∧T 5=u∧T 6=.mp q∧T 7=gi at_
set_option maxHeartbeats 32000000 in
theorem Ky (g:ao) (hg:g.Ok) (hsm:g.Small):de Tryz.prog 24 [.agg (aw g)] (.bt [bS (ct g).1,gi (ct g).2]):=by
 refine de.of (eU g) ?_
 have hIs:=KP g hg hsm
 refine aB.of mixed zU ?_
 simp only[aw,encS] at hIs
 simp (disch:=omega) only [↓wr,seval,wq,ah,ag,ak,aa,ab,af,ai,ae,vq,aw,encS]
 refine aF.pure hIs (by kernel_rfl) ?_
 simp (disch:=omega) only [↓wr,seval,wq,ah,ag,ak,aa,ab,af,ai,ae]
 refine aq.split (fun hr=>?_) (fun hr=>?_)
 rotate_left
 ·simp (disch:=omega) only [↓wr,seval,wq,ah,ag,ak,aa,ab,af,ai,ae]
  intro h' _
  have e:ct g=([],1):=by unfold ct; rw[Q9 (by rw[hr]; simp)]
  rw[e]
  exact sN (.emp _)
 have hf:g.dL:=pw hr
 have e0:gg g 302 0 dU=ct g:=by unfold ct; rw[Ra hr]
 have hT:=hf.av; have hN:=hf.az
 simp (disch:=omega) only [↓wr,seval,wq,ah,ag,ak,aa,ab,af,ai,ae]
 intro q1 q2 hq2 q3 hq3
 have hst1:dc g ⟨-1,0⟩:=(oC (g:=g)).bh ⟨[⟨-1,0⟩],[]⟩ (by simp[dU]) |>.2.2 _ (by simp)
 have o0:bk (((View.set (fun _=>dh.dead) q1 (.arr 2 [[gi (-1),gi 0]])).set q2 (.arr 2 [[.sl q1 0 1 2,.emp 1]]))) ((.sl q2 0 1 2,2,iN [(.sl q1 0 1 2,.emp 1,⟨[⟨-1,0⟩],[]⟩)]) :: qS [(.sl q1 0 1 2,.emp 1,⟨[⟨-1,0⟩],[]⟩)]) :=
  (((bk.nil.emp (k:=1) (sz:=2)).new (n:=q1) rfl 2 [[gi (-1),gi 0]]).new (by simpa [View.set] using hq2) 2 [[.sl q1 0 1 2,.emp 1]])
 have o1:=o0.fresh (n:=q3) (by simpa [View.set] using hq3) (o:=.map [] 0)
 have hm3:((((View.set (fun _=>dh.dead) q1 (.arr 2 [[gi (-1),gi 0]])).set q2 (.arr 2 [[.sl q1 0 1 2,.emp 1]])).set q3 (.map [] 0))) q3=.map (bW gx []) 0:=by simp[View.set,bW]
 generalize (((View.set (fun _=>dh.dead) q1 (.arr 2 [[gi (-1),gi 0]])).set q2 (.arr 2 [[.sl q1 0 1 2,.emp 1]])).set q3 (.map [] 0))=H3 at o1 hm3 ⊢
 clear o0 hq2 hq3
 have ok1:bc H3 (.sl q1 0 1 2) 2 (bT [⟨-1,0⟩]):=o1.1 _ (RN _ (Tt ..))
 refine aF.eJ ((EW g hf [⟨-1,0⟩] (fun x hx=>by simp at hx; subst hx; exact hst1) (by simp) (.sl q1 0 1 2) H3 ok1).mono ?_)
 rintro r H4 ⟨rfl,k4⟩
 have hm4:H4 q3=.map (bW gx []) 0:=by rw[k4 q3 (by rw[hm3]; simp),hm3]
 simp (disch:=omega) only [↓wr,seval,wq,ah,ag,ak,aa,ab,af,ai,ae,O9]
 refine sQ (kt:=9) (et:=3) (by kernel_rfl) (Fo Tryz.underlying9) (id:=q3) (c:=0) (m:=[]) (k:=fe [⟨-1,0⟩]) (v:=gi 0) (by simp (disch:=omega) only [↓wr,seval,wq,ah,ag,ak,aa,ab,af,ai,ae]) (by simp (disch:=omega) only [↓wr,seval,wq,ah,ag,ak,aa,ab,af,ai,ae]) rfl hm4 ?_
 intro c'
 have hN0:pb g dU (bu (fe [⟨-1,0⟩]) (gi 0) 0 []):=pb.put (out:=[]) hf (fun l _=>by simp[getM,findD]) (fun x hx=>by simp at hx; subst hx; exact hst1) (by simp[findD]) 0
 have o2:=(o1.stay k4).sf hm4 (o:=.map (bW gx (bu (fe [⟨-1,0⟩]) (gi 0) 0 [])) c')
 have hm5:(H4.set q3 (.map (bW gx (bu (fe [⟨-1,0⟩]) (gi 0) 0 [])) c')) q3=.map (bW gx (bu (fe [⟨-1,0⟩]) (gi 0) 0 [])) c':=by simp[View.set]
 generalize H4.set q3 (.map (bW gx (bu (fe [⟨-1,0⟩]) (gi 0) 0 [])) c')=H5 at o2 hm5 ⊢
 clear hm4 hm3 k4 ok1 o1
 clear H4 H3
 simp (disch:=omega) only [↓wr,seval,wq,ah,ag,ak,aa,ab,af,ai,ae]
 refine bg.intro (QW g) 302 ⟨0,_,_,dU,q3,c',_,rfl,rfl,o2,oC,Ri _,by simp[dU],e0,by omega,hm5,hN0,rfl,rfl,rfl,rfl⟩ ?_
 clear o2 hm5 hN0
 clear H5 q1 q2 q3 c'
 rintro m T H ⟨at_,u,S,out,q,c,M,hm,rfl,ho,hI,h1,h300,hl,hle,hmq,hNM,t1,t5,t6,t7⟩
 have hlu:cY u=some S.length:=by rw[ho.head.len,ga]
 simp only[Ro] at h1 h300 hle
 simp (disch:=omega) only [↓wr,seval,wq,ah,ag,ak,aa,ab,af,ai,ae,sM,t1,t5,t6,t7,hlu]
 refine aq.dec (fun hc=>?_) (fun hc=>?_)
 rotate_left
 ·simp (disch:=omega) only [↓wr,seval,wq,ah,ag,ak,aa,ab,af,ai,ae,t5]
  have e1:ct g=(S.map (fun x=>x.2.2),0):=by
   rw[← hl]
   cases m with
   | zero=>rfl
   | succ m=>rw[gg,Q9 (by simp; omega)]
  rw[e1]
  rintro h' rfl
  exact sN (Oy ho.head fun x hx=>⟨ho.1 _ (RN _ (A8 hx).1),ho.1 _ (RN _ (A8 hx).2)⟩)
 obtain ⟨m,rfl⟩:∃ q,m=q+1:=⟨m - 1,by omega⟩
 have hat:at_ < S.length:=by omega
 obtain ⟨S1,x,S2,rfl,hS1,hx⟩:=qH hat
 have hxm:x∈S1 ++ x :: S2:=by simp
 obtain ⟨hk1,hk2,hk3⟩:=hI.bh x.2.2 (List.mem_map_of_mem hxm)
 have hkl:=yH hf hk1 hk3
 have hh:bc H u 2 (iN (S1 ++ x :: S2)):=ho.head
 obtain ⟨id,hu,hid⟩:=hh.sl (by rw[ga]; omega)
 have hgx:(iN (S1 ++ x :: S2)).getD at_ []=[x.1,x.2.1]:=by simp[iN,Q6,← hS1]
 have hcl:cQ g ((List.map (fun x=>x.2.2) (S1 ++ x :: S2)).getD at_ bm).bh=cQ g x.2.2.bh:=by
  rw[Q6,Rc,hx]; rfl
 have hrow:=fun n hn=>dy.row (hI.pa hf (show at_ < ((S1 ++ x :: S2).map fun x=>x.2.2).length by simpa using hat)).1 (hI.pa hf (show at_ < ((S1 ++ x :: S2).map fun x=>x.2.2).length by simpa using hat)).2 hI n hn
 rw[gg,Ra (by simpa using hat),Br] at hl
 rw[hcl] at hl hrow
 have hcs:=ki g x.2.2.bh
 have hch:∀ y∈cQ g x.2.2.bh,dc g y:=fun y hy=>((df hf hk3).1 hy).has hk3
 rw[ga] at hu
 simp (disch:=omega) only [↓wr,seval,wq,ah,ag,ak,aa,ab,af,ai,ae,t1,t5,t7,hu,hid,hgx,aw,encS]
 refine ⟨by omega,by rw[ga]; omega,?_⟩
 refine aF.Hs (FW g hf x.2.2.bh hk3 (by omega) x.1 H (ho.1 _ (RN _ (A8 hxm).1))) ?_
 intro r H2 or fr
 simp (disch:=omega) only [↓wr,seval,wq,ah,ag,ak,aa,ab,af,ai,ae,aw,encS]
 have hcl':=yH hf hcs hch
 refine aF.still (Mx g hf (cQ g x.2.2.bh) hch (by omega) r H2 or) (fun r H' h=>by obtain ⟨q,A,_,h⟩:=h; exact h.old) ?_
 rintro r2 H6 ⟨q',A,rfl,hMv⟩
 have hfr:∀ id,H id≠.dead→H6 id=H id:=fun id hid=>by rw[hMv.old id (by rw[(fr id hid).1]; exact hid),(fr id hid).1]
 have hmq6:H6 q=.map (bW gx M) c:=by rw[hfr q (by rw[hmq]; simp),hmq]
 have o6:bk H6 ((u,2,iN (S1 ++ x :: S2)) :: (qS (S1 ++ x :: S2) ++ iw g (cQ g x.2.2.bh) (A.filter fun y=>decide (((0:Nat):Int)≤y.1)))):=by
  have hA:A.filter (fun y=>decide (((0:Nat):Int)≤y.1))=A:=List.filter_eq_self.2 fun y hy=>by simpa using (hMv.ne y hy).1
  rw[hA]
  refine (ho.stay hfr).join (M:=iw g (cQ g x.2.2.bh) A) hMv.own fun a ha b hb id h1 h2=>?_
  obtain ⟨y,hy,rfl⟩:=Rv.1 hb
  have h3:=hMv.new y hy id h2
  have h4:=ho.live ha h1
  rw[(fr id h4).1] at h3
  exact h4 h3
 obtain ⟨cA,hmA⟩:=hMv.mp
 have hAnd:=hMv.nd
 have hqq:q'≠q:=by
  rintro rfl
  have:=hMv.q0
  rw[(fr _ (by rw[hmq]; simp)).1,hmq] at this; simp at this
 have hAval:∀ k:Nat,(getM A (k:Int)=none→bC g (cQ g x.2.2.bh) (aZ g k)=[]):=fun k h=>RY fun hne=>getM_none.1 h (hMv.all k hne)
 clear or fr hid hgx hcl hx hfr hMv hmq
 generalize cQ g x.2.2.bh=cl at *
 generalize hout0:(S1 ++ x :: S2).map (fun x=>x.2.2)=out0 at *
 have hol:out0.length=(S1 ++ x :: S2).length:=by rw[← hout0]; simp
 simp (disch:=omega) only [↓wr,seval,wq,ah,ag,ak,aa,ab,af,ai,ae,t1,t5,t6,t7,aw,encS]
 refine bg.up (g.av.length+g.az.length) (fun i T H'=>∃ (u:V) (S:List sk) (M:bF (List UInt8)) (c:Nat),S.map (fun x=>x.2.2)=(List.range i).foldl (dG g cl at_) out0∧bk H' ((u,2,iN S) :: (qS S ++ iw g cl (A.filter fun y=>decide (((i:Nat):Int)≤y.1)))) ∧
  H' q'=.map (bW (Value.int .i64) A) cA∧H' q=.map (bW gx M) c∧pb g (S.map fun x=>x.2.2) M∧T 1=.aL (aw g) 0∧T 5=u∧T 6=.mp q∧T 7=gi at_∧T 8=.mp q'∧T 47=gi ((g.av.length+g.az.length:Nat):Int)∧T 48=gi i)
  ⟨u,_,M,c,hout0,o6,hmA,hmq6,by rw[hout0]; exact hNM,t1,by rw[← hu]; exact t5,t6,t7,rfl,?_,rfl⟩ ?_
 ·push_cast; rfl
 rw[← hol] at h1 h300 hle hat
 clear o6 ho hh hu t1 t5 t6 t7 hlu hout0 hxm hol hc hk1 hk2 hk3 hkl hS1 hmA hmq6 hNM
 clear u H H2 H6 T id S1 x S2 M c r
 rintro i k T H' hk ⟨u,S,M,c,hA,ho,hmA,hmq,hNM,t1,t5,t6,t7,t8,t47,t48⟩
 obtain ⟨iI,il1,il2⟩:=hrow i (by omega)
 rw[← hA] at iI il1 il2
 rw[Ro] at il1 il2
 have hlu:cY u=some S.length:=by rw[ho.head.len,ga]
 simp (disch:=omega) only [↓wr,seval,wq,ah,ag,ak,aa,ab,af,ai,ae,sP,t1,t5,t6,t7,t8,t47,t48]
 refine aq.dec (fun hc=>?_) (fun hc=>?_)
 rotate_left
 ·have hi:i=g.av.length+g.az.length:=by omega
  subst hi
  rw[← hA] at hl
  simp (disch:=omega) only [↓wr,seval,wq,ah,ag,ak,aa,ab,af,ai,ae,t1,t5,t6,t7,hlu]
  refine aq.dec (fun h3=>?_) (fun h3=>?_)
  ·simp (disch:=omega) only [↓wr,seval,wq,ah,ag,ak,aa,ab,af,ai,ae]
   intro h' _
   rw[Ra (by rw[Ro]; omega)] at hl
   rw[← hl]
   exact sN (.emp _)
  ·simp (disch:=omega) only [↓wr,seval,wq,ah,ag,ak,aa,ab,af,ai,ae,t1,t5,t6,t7]
   rw[Q9 (by rw[Ro]; omega)] at hl
   exact ⟨m,by omega,at_+1,u,S,_,q,c,M,by omega,rfl,ho.sub (List.Sublist.cons_cons _ (List.sublist_append_left _ _)),iI.next,by rw[Ro]; omega,by rw[Ro]; omega,hl,by rw[Ro]; omega,hmq,hNM,t1,t5,t6,rfl⟩
 have hcN:i < g.av.length+g.az.length:=by omega
 have hsb:=HY hf hcN
 have hstep:(List.range (i+1)).foldl (dG g cl at_) out0=dG g cl at_ (S.map fun x=>x.2.2) i:=by rw[Sb,RR,← hA]; rfl
 have hval:bc H' ((getM A (i:Int)).getD (.emp 1)) 2 (bT (bC g cl (aZ g i))):=by
  cases hg:getM A (i:Int) with
  | none=>rw[hAval i hg]; exact .nil
  | some v =>
   obtain ⟨b,hp⟩:=Fb hAnd hg
   refine ho.1 (v,2,bT (bC g cl (aZ g i))) (RN _ (SN _ (Rv.2 ⟨((i:Int),v,b),hp.mem_iff.2 (by simp),?_⟩)))
   simp
 have hsub:(iw g cl (A.filter fun y=>decide (((i+1:Nat):Int)≤y.1))).Sublist (iw g cl (A.filter fun y=>decide (((i:Nat):Int)≤y.1))):=by
  have:A.filter (fun y=>decide (((i+1:Nat):Int)≤y.1))=(A.filter (fun y=>decide (((i:Nat):Int)≤y.1))).filter (fun y=>decide (((i+1:Nat):Int)≤y.1)):=by
   rw[List.filter_filter]
   refine List.filter_congr fun y _=>?_
   rw[← Bool.decide_and,decide_eq_decide]; omega
  rw[this]
  exact (List.filter_sublist).map _
 simp (disch:=omega) only [↓wr,seval,wq,ah,ag,ak,aa,ab,af,ai,ae,t8,t48]
 refine wW (kt:=3) (et:=27) (z:=.emp 1) (by kernel_rfl) (by kernel_rfl) (jX .i64 Tryz.underlying3) (id:=q') (c:=cA) (m:=A) (k:=(i:Int)) (by simp (disch:=omega) only [↓wr,seval,wq,ah,ag,ak,aa,ab,af,ai,ae]) (by simp (disch:=omega) only [↓wr,seval,wq,ah,ag,ak,aa,ab,af,ai,ae]) hmA ?_
 simp (disch:=omega) only [↓wr,seval,wq,ah,ag,ak,aa,ab,af,ai,ae]
 refine aF.eJ ((KJ (BQ (aZ g i) hcs) (by have:=x9 (g:=g) (l:=cl) (s:=aZ g i); omega) _ H' hval).mono ?_)
 rintro r _ ⟨rfl,or,hreq⟩
 have hml:=x9 (g:=g) (l:=cl) (s:=aZ g i)
 have hmh:=Dw (s:=aZ g i) hch
 have hl9:cY r=some (bC g cl (aZ g i)).length:=by rw[or.len,bI]
 simp (disch:=omega) only [↓wr,seval,wq,ah,ag,ak,aa,ab,af,ai,ae,hl9]
 refine aq.eq (fun he=>?_) (fun he=>?_)
 ·have hnil:bC g cl (aZ g i)=[]:=SV.1 (by omega)
  simp (disch:=omega) only [↓wr,seval,wq,ah,ag,ak,aa,ab,af,ai,ae,t1,t5,t6,t7,t8,t47,t48]
  exact aQ hk (by omega) ⟨u,S,M,c,by rw[hstep,dG,Ra hnil],ho.sub (List.Sublist.cons_cons _ (hsub.append_left _)),hmA,hmq,hNM,t1,t5,t6,t7,t8,t47,rfl⟩
 have hne:bC g cl (aZ g i)≠[]:=fun e=>he (by rw[e]; rfl)
 have hgs:∃ v,getM A (i:Int)=some v:=by
  cases hg:getM A (i:Int) with
  | none=>exact absurd (hAval i hg) hne
  | some v=>exact ⟨v,rfl⟩
 obtain ⟨v,hg⟩:=hgs
 have hrv:=hreq hne
 rw[hg] at hrv
 simp only[Rq] at hrv
 obtain ⟨b,hperm⟩:=Fb hAnd hg
 have hperm2:(iw g cl (A.filter fun y=>decide (((i:Nat):Int)≤y.1))).Perm ((r,2,bT (bC g cl (aZ g i))) :: iw g cl (A.filter fun y=>decide (((i+1:Nat):Int)≤y.1))):=by
  have:=hperm.map (fun x:Int × V × Nat=>((x.2.1,2,bT (bC g cl (aZ g x.1.toNat))):cb))
  simp only[RE,Rs] at this
  rw[hrv]; exact this
 have hfl:=x5 (S.map fun x=>x.2.2) (bC g cl (aZ g i))
 have hfg:=tj (S.map fun x=>x.2.2) (bC g cl (aZ g i))
 rw[Ro] at hfl
 have hNk:=hNM (bC g cl (aZ g i)) hmh
 have hat2:at_ < S.length:=by omega
 obtain ⟨S1,x,S2,hSs,hS1,hx⟩:=qH hat2
 have hxe:x.2.2.aX.length≤40:=(iI.aX at_ x.2.2 (by rw[Rc,hx]; rfl)).1
 have hgx:∀ B,(iN (S1 ++ x :: B)).getD at_ []=[x.1,x.2.1]:=fun B=>by simp[iN,Q6,← hS1]
 have hput:∀ (B:List sk) (c:c8),((S1 ++ x :: B).map fun x=>x.2.2).modify at_ (fun s=>(⟨s.bh,s.aX ++ [c]⟩:aP))=(S1 ++ (x.1,x.2.1,(⟨x.2.2.bh,x.2.2.aX ++ [c]⟩:aP)) :: B).map fun x=>x.2.2:=fun B c=>by
  rw[RI,RE,← hS1,← Ro (f:=fun x:sk=>x.2.2),IF,RI,RE]
 simp (disch:=omega) only [↓wr,seval,wq,ah,ag,ak,aa,ab,af,ai,ae,t1,t5,t6,t7,t8,aw,encS]
 refine aq.dec (fun hge=>?_) (fun hge=>?_)
 simp (disch:=omega) only [↓wr,seval,wq,ah,ag,ak,aa,ab,af,ai,ae,t1,t5,t6,t7,t8,aw,encS]
 have hs:aZ g i=(g.av.length:Int) - 1 - i:=by unfold aZ; rw[Q9 (by omega)]; omega
 generalize (g.av.length:Int) - 1 - (i:Int)=sv at hs ⊢
 rotate_left
 simp (disch:=omega) only [↓wr,seval,wq,ah,ag,ak,aa,ab,af,ai,ae,t1,t5,t6,t7,t8,aw,encS]
 have hs:aZ g i=(i:Int):=by unfold aZ; rw[Ra (by omega)]
 generalize ((i:Nat):Int)=sv at hs ⊢
 all_goals (
  refine aF.eJ ((EW g hf (bC g cl (aZ g i)) hmh (by omega) r H' or).mono ?_)
  rintro rk H3 ⟨rfl,k3⟩
  have hmq3:H3 q=.map (bW gx M) c:=by rw[k3 q (by rw[hmq]; simp),hmq]
  have hmA3:H3 q'=.map (bW (Value.int .i64) A) cA:=by rw[k3 q' (by rw[hmA]; simp),hmA]
  have o3:=ho.stay k3
  have or3:bc H3 r 2 (bT (bC g cl (aZ g i))):=or.keep fun id hid=>k3 id (by rw[(or.live hid).1]; simp)
  simp (disch:=omega) only [↓wr,seval,wq,ah,ag,ak,aa,ab,af,ai,ae,t6]
  refine NK (kt:=9) (et:=3) (z:=gi 0) (by kernel_rfl) (by kernel_rfl) (Fo Tryz.underlying9) (id:=q) (c:=c) (m:=M) (k:=fe (bC g cl (aZ g i))) (by simp (disch:=omega) only [↓wr,seval,wq,ah,ag,ak,aa,ab,af,ai,ae]) (by simp (disch:=omega) only [↓wr,seval,wq,ah,ag,ak,aa,ab,af,ai,ae]) hmq3 ?_
  by_cases hneg:findD (S.map fun x=>x.2.2) (bC g cl (aZ g i)) < 0
  rw[Ra hneg] at hNk
  rw[hNk]
  simp only[Option.getD_none,Option.isSome_none]
  simp (disch:=omega) only [↓wr,seval,wq,ah,ag,ak,aa,ab,af,ai,ae,t1,t5,t6,t7,t8,hlu]
  refine aF.eJ ((EW g hf (bC g cl (aZ g i)) hmh (by omega) r H3 or3).mono ?_)
  rintro rk2 H4 ⟨rfl,k4⟩
  have hmq4:H4 q=.map (bW gx M) c:=by rw[k4 q (by rw[hmq3]; simp),hmq3]
  have hmA4:H4 q'=.map (bW (Value.int .i64) A) cA:=by rw[k4 q' (by rw[hmA3]; simp),hmA3]
  have o4:=o3.stay k4
  simp (disch:=omega) only [↓wr,seval,wq,ah,ag,ak,aa,ab,af,ai,ae,t6]
  refine sQ (kt:=9) (et:=3) (by kernel_rfl) (Fo Tryz.underlying9) (id:=q) (c:=c) (m:=M) (k:=fe (bC g cl (aZ g i))) (v:=gi S.length) (by simp (disch:=omega) only [↓wr,seval,wq,ah,ag,ak,aa,ab,af,ai,ae]) (by simp (disch:=omega) only [↓wr,seval,wq,ah,ag,ak,aa,ab,af,ai,ae]) (by simp (disch:=omega) only [↓wr,seval,wq,ah,ag,ak,aa,ab,af,ai,ae]) hmq4 ?_
  intro c'
  have hN2:pb g ((S1 ++ x :: (S2 ++ [(r,.emp 1,(⟨bC g cl (aZ g i),[]⟩:aP))])).map fun x=>x.2.2) (bu (fe (bC g cl (aZ g i))) (gi S.length) c M):=by
   have:=pb.put hf hNM hmh hneg c
   rw[Ro] at this
   refine this.same ?_
   rw[hSs]; simp
  have hmq5:(H4.set q (.map (bW gx (bu (fe (bC g cl (aZ g i))) (gi S.length) c M)) c')) q=.map (bW gx (bu (fe (bC g cl (aZ g i))) (gi S.length) c M)) c':=by simp[View.set]
  have hmA5:(H4.set q (.map (bW gx (bu (fe (bC g cl (aZ g i))) (gi S.length) c M)) c')) q'=.map (bW (Value.int .i64) A) cA:=by
   simp only[View.set]; rw[Q9 hqq]; exact hmA4
  have o5:=o4.sf hmq4 (o:=.map (bW gx (bu (fe (bC g cl (aZ g i))) (gi S.length) c M)) c')
  generalize H4.set q (.map (bW gx (bu (fe (bC g cl (aZ g i))) (gi S.length) c M)) c')=H5 at hmq5 hmA5 o5 ⊢
  clear hmq4 hmA4 o4 k4
  generalize bu (fe (bC g cl (aZ g i))) (gi S.length) c M=M2 at hN2 hmq5
  simp (disch:=omega) only [↓wr,seval,wq,ah,ag,ak,aa,ab,af,ai,ae,t1,t5,t6,t7,t8,or.cells,or.qi]
  intro q5 hq5
  simp (disch:=omega) only [↓wr,seval,wq,ah,ag,ak,aa,ab,af,ai,ae,dW]
  have hnq:∀ b,H5 b≠.dead→b≠q5:=fun b hb e=>hb (by rw[e]; exact hq5)
  refine eR (o5.fresh hq5) (by simp[or.qi,AV]) (by unfold aK; rw[ga]; simp; omega) (by unfold aK; rw[ga]; simp; omega) ?_
  intro u2 H10 o11 l11
  have hmq10:=l11.map (o5.fresh (o:=.arr 2 [[r,.emp 1]]) hq5).head (b:=q) (c:=c') (es:=bW gx M2) (by simp only[View.set]; rw[Q9 (hnq q (by rw[hmq5]; simp)),hmq5])
  have hmA10:=l11.map (o5.fresh (o:=.arr 2 [[r,.emp 1]]) hq5).head (b:=q') (c:=cA) (es:=bW (Value.int .i64) A) (by simp only[View.set]; rw[Q9 (hnq q' (by rw[hmA5]; simp)),hmA5])
  have o12:=(o11.emp (k:=1) (sz:=2)).perm (PS hperm2)
  have hst:dG g cl at_ (S.map fun x=>x.2.2) i=((S1 ++ x :: (S2 ++ [(r,.emp 1,(⟨bC g cl (aZ g i),[]⟩:aP))])).map fun x=>x.2.2).modify at_ (fun s=>(⟨s.bh,s.aX ++ [⟨aZ g i,(S.length:Int)⟩]⟩:aP)):=by
   rw[dG,Q9 hne,Ra hneg,Ro]
   congr 1
   rw[hSs]; simp
  have o13:bk H10 ((u2,2,iN (S1 ++ x :: (S2 ++ [(r,.emp 1,(⟨bC g cl (aZ g i),[]⟩:aP))]))) :: (qS (S1 ++ x :: (S2 ++ [(r,.emp 1,(⟨bC g cl (aZ g i),[]⟩:aP))])) ++ iw g cl (A.filter fun y=>decide (((i+1:Nat):Int)≤y.1)))):=by
   have e1:iN (S1 ++ x :: (S2 ++ [(r,.emp 1,(⟨bC g cl (aZ g i),[]⟩:aP))]))=iN S ++ [[r,.emp 1]]:=by rw[hSs]; simp[iN]
   have e2:qS (S1 ++ x :: (S2 ++ [(r,.emp 1,(⟨bC g cl (aZ g i),[]⟩:aP))]))=qS S ++ [(r,2,bT (bC g cl (aZ g i))),(.emp 1,2,[])]:=by rw[hSs]; simp[qS]; rfl
   rw[e1,e2]
   exact o12
  have hBl:(S1 ++ x :: (S2 ++ [(r,V.emp 1,(⟨bC g cl (aZ g i),[]⟩:aP))])).length≤400:=by
   have:=Sp List.length hSs
   simp at this ⊢; omega
  generalize (S2 ++ [(r,V.emp 1,(⟨bC g cl (aZ g i),[]⟩:aP))])=B at hst o13 hN2 hBl
  generalize (S.length:Int)=to at hst ⊢
  clear o11 o12 l11 hmq5 hmA5 o5 hnq hq5
  rotate_left
  rw[Q9 hneg] at hNk
  rw[hNk]
  simp only[Rq,Option.isSome_some]
  simp (disch:=omega) only [↓wr,seval,wq,ah,ag,ak,aa,ab,af,ai,ae,t1,t5,t6,t7,t8]
  have hst:dG g cl at_ (S.map fun x=>x.2.2) i=((S1 ++ x :: S2).map fun x=>x.2.2).modify at_ (fun s=>(⟨s.bh,s.aX ++ [⟨aZ g i,findD (S.map fun x=>x.2.2) (bC g cl (aZ g i))⟩]⟩:aP)):=by
   rw[dG,Q9 hne,Q9 hneg,← hSs]
  have o13:=o3.sub (List.Sublist.cons_cons _ (hsub.append_left _))
  have hN2:=hNM
  have hBl:(S1 ++ x :: S2).length≤400:=by rw[← hSs]; omega
  have hmq10:=hmq3
  have hmA10:=hmA3
  generalize H3=H10 at o13 hmq10 hmA10 ⊢
  generalize u=u2 at o13 t5 ⊢
  rw[hSs] at o13 hN2
  generalize findD (S.map fun x=>x.2.2) (bC g cl (aZ g i))=to at hst ⊢
  generalize S2=B at hst o13 hN2 hBl
  generalize M=M2 at hmq10 hN2
  generalize c=c' at hmq10
  all_goals (
   obtain ⟨id,hu,hid⟩:=(show bc H10 u2 2 (iN (S1 ++ x :: B)) from o13.head).sl (by rw[ga]; simp; omega)
   rw[ga] at hu
   rw[Ge] at o13
   simp only[RO,RM] at o13
   simp (disch:=omega) only [↓wr,seval,wq,ah,ag,ak,aa,ab,af,ai,ae,t1,t5,t6,t7,t8,hu,hid,hgx B]
   refine ⟨by simp; omega,by rw[ga]; simp; omega,?_⟩
   intro q2 hq2
   have hnq:∀ b,H10 b≠.dead→b≠q2:=fun b hb e=>hb (by rw[e]; exact hq2)
   simp (disch:=omega) only [↓wr,seval,wq,ah,ag,ak,aa,ab,af,ai,ae,dW]
   refine eR ((o13.perm C7).fresh hq2) (by simp[aS]) (by unfold aK; simp[gH]; omega) (by unfold aK; simp[gH]; omega) ?_
   intro e2 H11 o14 l14
   have hmq11:=l14.map ((o13.perm C7).fresh (o:=.arr 2 [[gi sv,gi to]]) hq2).head (b:=q) (c:=c') (es:=bW gx M2) (by simp only[View.set]; rw[Q9 (hnq q (by rw[hmq10]; simp)),hmq10])
   have hmA11:=l14.map ((o13.perm C7).fresh (o:=.arr 2 [[gi sv,gi to]]) hq2).head (b:=q') (c:=cA) (es:=bW (Value.int .i64) A) (by simp only[View.set]; rw[Q9 (hnq q' (by rw[hmA10]; simp)),hmA10])
   have hid2:H11 id=.arr 2 (iN (S1 ++ x :: B)):=((o14.own 1 rfl).live (by rw[hu]; rfl)).1
   simp (disch:=omega) only [↓wr,seval,wq,ah,ag,ak,aa,ab,af,ai,ae,t1,t5,t6,t7,t8,t47,t48,hu,hid2,hgx B,o14.head.cells,o14.head.qi]
   have hset:(iN (S1 ++ x :: B)).set at_ [x.1,e2]=iN (S1 ++ (x.1,e2,(⟨x.2.2.bh,x.2.2.aX ++ [⟨aZ g i,to⟩]⟩:aP)) :: B):=by
    rw[← hS1]; simp[iN]
   have hpd:gH (x.2.2.aX ++ [⟨aZ g i,to⟩])=gH x.2.2.aX ++ [[gi sv,gi to]]:=by rw[hs]; simp[gH,kr]
   have o15:=o14.perm (.swap _ _ _)
   rw[hu] at o15
   have o16:=((o15.put (es':=iN (S1 ++ (x.1,e2,(⟨x.2.2.bh,x.2.2.aX ++ [⟨aZ g i,to⟩]⟩:aP)) :: B)) (by rw[ga,ga]; simp) (by rw[ga])).perm (.swap _ _ _)).perm C7.symm
   rw[← hpd] at o16
   rw[← hu] at o16
   rw[hset]
   have hnid:∀ b c es,H11 b=.map es c→b≠id:=fun b c es hb e=>by rw[e,hid2] at hb; simp at hb
   refine ⟨by simp; omega,by rw[ga]; simp; omega,aQ hk (by omega) ⟨u2,_,M2,c',?_,by rw[Ge]; simp only[RO,RM]; exact o16,?_,?_,?_,t1,by first | rfl | exact t5 | exact hu.symm,t6,t7,t8,t47,rfl⟩⟩
   ·rw[hstep,hst,hput]; simp
   ·simp only[View.set]; rw[Q9 (hnid q' _ _ hmA11)]; exact hmA11
   ·simp only[View.set]; rw[Q9 (hnid q _ _ hmq11)]; exact hmq11
   ·refine hN2.same ?_
    simp))
end Gv
