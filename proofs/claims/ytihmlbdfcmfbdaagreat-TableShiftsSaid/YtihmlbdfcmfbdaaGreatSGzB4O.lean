/-
  Part 15 of the proof: what the machine does and what the functions answer.
  Conditions: those that each lemma names.
-/
import Derived.Test.YtihmlbdfcmfbdaaGreatSGzB4N
set_option linter.unusedSimpArgs false
set_option linter.unusedVariables false
set_option maxRecDepth 100000
set_option maxHeartbeats 20000000
namespace Gv
open Go Go.Proofs
def zT:SF:=⟨ae [ab [cI 2 0,df 4 1],ae [ab [aa 5 1,aH 6 .eql 5 (-1)],bf 6 (ae [ab [ao 7 3 2,aj 8 7,((some 9),.op (.arith .sub (.val (.val (.int .i64 (-1)))) (.tmp 8))),((some 10),.op (.bV 1 1 [(.val (.int .i64 0))] [(0,(.tmp 9))])),aa 4 10],.ret])],ab [ao 11 2 2,aj 12 11,aa 13 1,aQ 14 3 12 13,ao 15 1 14,aj 16 15,aa 4 16],.ret],
 [.tmp 4],17⟩
theorem Dy:aR Tryz.prog 53 [2]=some zT:=by kernel_rfl
def A8:SF:=⟨ae [ab [cI 2 0,cI 3 1,aS 4 0,bu 5 false],ae [ab [bg 7 4 2,ao 8 0 3,aj 9 8,bz 10 53 [7,9],aa 6 10],ab [ao 11 1 3,aj 12 11,aa 13 6,aN 14 13,aV 15 .lss 12 14],bf 15 (ae [ab [aa 16 6,ao 17 1 3,aj 18 17,aQ 19 1 16 18,aj 20 19,aa 4 20,bu 5 true],.ret])],ab [aS 4 0,bu 5 false],.ret],
 [.tmp 4,.tmp 5],21⟩
theorem Et:aR Tryz.prog 50 [2,3]=some A8:=by kernel_rfl
def Bc:SF:=⟨ae [ab [cI 2 0,aS 4 0],ae [ab [aa 5 1,aH 6 .lss 5 0],bf 6 (ae [ab [ao 7 0 2,aj 8 7,aN 9 8,aH 10 .sub 9 1,aa 11 1,aV 12 .sub 10 11,aa 4 12],.ret])],ab [aa 13 1,aa 4 13],.ret],
 [.tmp 4],14⟩
theorem EA:aR Tryz.prog 111 [2]=some Bc:=by kernel_rfl
def cW:SF:=⟨ae [ab [df 2 1],ae [ab [aa 3 0,((some 4),.op (.nil true 0 (.tmp 3) (.val (.emp 1))))],bf 4 (ae [ab [df 2 1],.ret])],ab [df 5 2,aa 6 0,gY 7 2 16 5 6,aa 2 7],.ret],
 [.tmp 2],8⟩
theorem dg:aR Tryz.prog 58 []=some cW:=by kernel_rfl
def tu:SC :=
 ae [ab [aV 54 .lss 53 52],bY 54 (.exit 2),.block 3 (ae [ab [aa 55 53,aQ 56 3 51 53,bg 57 3 56,((some 11),.op (.alloc [(.val (.int .i64 0)),(.emp 1),(.val (.int .i64 0))])),aa 10 55,bU 3 11 57],ab [ao 58 0 11,aj 59 58,aa 60 8,((some 61),.op (.arith .sub (.val (.val (.int .i64 (-1)))) (.tmp 60))),aV 62 .eql 59 61],bf 62 (ab [aa 63 5,aa 64 10,((some 65),.op (.build [(.val (.int .i64 0)),(.val (.int .i64 0))] [(0,1,(.tmp 64))])),((some 66),.op (.bV 1 2 [(.val (.int .i64 0)),(.val (.int .i64 0))] [(0,(.tmp 65))])),gY 67 2 16 63 66,aa 5 67])]),ab [aH 68 .add 53 1,aa 53 68]]
def sU:SC :=
 ae [ae [ab [aa 18 7,aa 19 5,aN 20 19,aV 21 .lss 18 20],bY 21 (.exit 0)],.block 1 (ae [ab [bg 25 4 2,aa 26 5,aa 27 7,aQ 28 2 26 27,bg 29 2 28,bz 30 50 [25,29],aa 24 30,fI 31 0 24,fI 32 1 24,aa 8 31,aa 9 32],ae [.region false [⟨none,[aa 33 9,de 34 33,aa 35 34]⟩,⟨(some (35,false)),[aa 36 8,aH 37 .geq 36 0]⟩,⟨none,[cz 38 35 37,aa 39 38]⟩,⟨(some (39,false)),[aa 40 6,aa 41 8,((some 42),.op (.arith .sub (.val (.val (.int .i64 (-1)))) (.tmp 41))),aQ 43 1 40 42,aj 44 43]⟩,⟨none,[cz 45 39 44]⟩],bf 45 (.exit 1)],ab [aa 46 6,aa 47 8,((some 48),.op (.arith .sub (.val (.val (.int .i64 (-1)))) (.tmp 47))),aQ 49 1 46 48,(none,.op (.store 1 (.tmp 49) (.val (.val (.bool true)))))],ab [ao 50 2 2,aj 51 50,aN 52 51,aS 53 0],b6 2 tu]),ab [aa 22 7,aH 23 .add 22 1,aa 7 23]]
def vC:SF:=⟨ae [ab [cI 2 0,df 4 1],ab [aa 12 1,bz 13 58 [12],aa 5 13],ab [ao 14 1 2,aj 15 14,aN 16 15,((some 17),.op (.make 1 1 [(.val (.bool false))] (.tmp 16) (.tmp 16))),aa 6 17],ae [ab [aS 7 0],b6 0 sU],ab [aa 69 5,bz 70 64 [69],aa 4 70],.ret],
 [.tmp 4],71⟩
theorem AR:aR Tryz.prog 56 [2]=some vC:=by kernel_rfl
theorem NM (g:ag) (hs : -100≤g.start∧g.start≤100) (r:Int) (hr : -1≤r∧r < (g.rules.length:Int)):aA Tryz.prog 53 [.agg (ai g),gi r] (encI (aK g r)):=by
 refine aA.of (by
  intro v a; simp at a
  rcases a with rfl | rfl
  ·exact cq _ (dE g)
  ·exact .val _) ?_
 refine aw.of mixed Dy ?_
 unfold aK
 simp (disch:=omega)only[↓wr,seval,wq,zT,ai,encS]
 apply ah.eq<;>intro h1
 ·simp (disch:=omega)only[↓wr,seval,wq,ai,encS]
  intro n
  rw[Xg h1]
  rintro c a
  refine dB.fr (lQ (l:=[-1 - g.start]) (.inr ⟨n,rfl,?_⟩))
  rw[a]; simp[View.set]
 ·have b:g.rules[r.toNat]?=some (av g r):=by unfold av; exact getD_some (by omega)
  rw[Xd h1]
  generalize av g r=R at b
  simp (disch:=omega)only[↓wr,seval,wq,ai,encS,Xf,b,Xk,aP]
  intro c _
  exact .tree _ (gp R.right)
theorem Iy (g:ag) (c:g.dD) (x:aD) (b:cU g x):aA Tryz.prog 50 [.agg (ai g),.agg (cr x)] (.bp [gi (bK g x).1,gb (bK g x).2]):=by
 have h1:=NM g (xx c) x.ax b.1
 have hl:=gP c b.1
 have hd:=b.2
 refine aA.tree (by
  intro v a; simp at a
  rcases a with rfl | rfl
  ·exact cq _ (dE g)
  ·exact cq _ fun v a=>by simp[cr] at a; rcases a with rfl | rfl <;> exact .val _) (.bp _ fun i hi=>by
   match i,hi with
   | 0,_=>exact .val _
   | 1,_=>exact .val _) fun H=>?_
 refine aw.of mixed Et ?_
 simp only[ai,encS,encI] at h1
 unfold bK
 simp (disch:=omega)only[↓wr,seval,wq,A8,ai,encS,cr]
 refine ay.pure h1 ?_
 generalize aK g x.ax=R at hd hl ⊢
 simp (disch:=omega)only[↓wr,seval,wq,cr]
 apply ah.dec<;>intro d
 ·have e:R[x.dot.toNat]?=some (R.getD x.dot.toNat 0):=getD_some (by omega)
  simp (disch:=omega)only[↓wr,seval,wq,cr,Xf,e,Xk]
  rw[Xd (by omega)]
 ·simp (disch:=omega)only[↓wr,seval,wq]
  rw[Xg (by omega)]
theorem QR (g:ag) (b:g.dD) (s:Int) (hs : -1000≤s∧s≤1000):aA Tryz.prog 111 [.agg (ai g),gi s] (gi (kb g s)):=by
 have c:=b.af
 refine aA.val (by
  intro v a; simp at a
  rcases a with rfl | rfl
  ·exact cq _ (dE g)
  ·exact .val _) fun H=>?_
 refine aw.of mixed EA ?_
 unfold kb
 simp (disch:=omega)only[↓wr,seval,wq,Bc,ai,encS]
 apply ah.dec<;>intro h1
 ·simp (disch:=omega)only[↓wr,seval,wq,ai]
  rw[Xg h1]
 ·simp (disch:=omega)only[↓wr,seval,wq]
  rw[Xd h1]
theorem bS.V8 {P:Program} {f:FuncId} {h:aC} {u:V} (hu:∀ Z μ hp x,az Z μ hp u x→∃ a cap,x=.slice a 0 cap∧(a=none→cap=0)) (h1:bS P f [.emp 1] h (.emp 1) h) (n:bS P f [.emp 2] h (.emp 2) h) (o:bS P f [.dS] h (.emp 2) h):bS P f [u] h (.emp 0) h:=by
 refine ⟨Xo _,fun Z μ F w xs j hr d=>?_⟩
 obtain ⟨hl,p⟩:=j
 obtain ⟨x,rfl⟩:∃ x,xs=[x]:=by
  match xs,hl with
  | [x],_=>exact ⟨x,rfl⟩
 have q:az Z μ w.heap u x:=p 0 (by simp)
 have one:∀ v,az Z μ w.heap v x→gA Z μ w.heap [v] [x]:=fun v h=>⟨rfl,fun i hi=>by
  simp at hi; subst hi; exact h⟩
 have b:∀ k,bS P f [if k=3 then .dS else .emp k] h (if k=3 then .emp 2 else .emp k) h→az Z μ w.heap (if k=3 then .dS else .emp k) x→Calls P f [x].toArray w fun e w'=>∃ x g μ',e=.returned x∧az g μ' w'.heap (.emp 0) x∧iH g μ' w'.heap (cat h F)∧Ext Z μ w h.length g μ' w'∧(∀ id,id < h.length∨h.length≤id→μ' id=μ id):=by
  intro k hk r
  refine (hk.2 Z μ F w [x] (one _ r) hr d).mono ?_
  rintro e w' ⟨y,g,μ',rfl,l,rest⟩
  refine ⟨y,g,μ',rfl,?_,rest⟩
  have:∀ m,az g μ' w'.heap (.emp m) y→az g μ' w'.heap (.emp 0) y:=fun m h=>by
   cases h with | emp _ a _ _=>exact .emp 0 a (by simp) (by simp)
  split at l <;> exact this _ l
 obtain ⟨a,cap,rfl,s⟩:=hu Z μ w.heap x q
 cases a with
 | none =>
  have:=s rfl
  subst this
  exact b 1 (by simpa using h1) (.emp 1 none (by simp) (by simp))
 | some a =>
  cases cap with
  | zero=>exact b 2 (by simpa using n) (.emp 2 (some a) (by simp) (by simp))
  | succ c=>exact b 3 (by simpa using o) (.dS a (c+1))
theorem QE {Z:Nat→Prop} {μ:Mu} {hp:Array Obj} {k:Nat} {x:Value} (h:az Z μ hp (.emp k) x):∃ a cap,x=.slice a 0 cap∧(a=none→cap=0):=by
 cases h with | emp _ a _ _=>exact ⟨a,0,rfl,fun _=>rfl⟩
theorem NK {Z:Nat→Prop} {μ:Mu} {hp:Array Obj} {id off esz:Nat} {x:Value} (h:az Z μ hp (.sl id off 0 esz) x):∃ a cap,x=.slice a 0 cap∧(a=none→cap=0):=by
 rcases Jn h with ⟨_,a,e⟩ | ⟨b,o0,cap,c,e,f,d,_⟩
 ·exact ⟨a,0,e,fun _=>rfl⟩
 ·exact ⟨_,cap,d,fun h=>by simp at h⟩
theorem JZ (u:V) (hu:∀ Z μ hp x,az Z μ hp u x→∃ a cap,x=.slice a 0 cap∧(a=none→cap=0)) (h:aC):bS Tryz.prog 58 [u] h (.emp 0) h:=by
 have hp:∀ v t,Tree v→Tree t→(∀ H,aw Tryz.prog 58 [v] H fun r _=>r=t)→aA Tryz.prog 58 [v] t:=fun v t c d h=>aA.tree (by intro x b; simp at b; subst b; exact c) d h
 have h1:=hp (.emp 1) (.emp 1) (.emp 1) (.emp 1) (fun H=>by
  refine aw.of mixed dg ?_
  simp (disch:=omega)only[↓wr,seval,wq,cW])
 have e:=hp (.emp 2) (.emp 2) (.emp 2) (.emp 2) (fun H=>by
  refine aw.of mixed dg ?_
  simp (disch:=omega)only[↓wr,seval,wq,cW,jA,Y6])
 have f:=hp .dS (.emp 2) .dS (.emp 2) (fun H=>by
  refine aw.of mixed dg ?_
  simp (disch:=omega)only[↓wr,seval,wq,cW,qW,jA,Y6])
 exact bS.V8 hu (bS.gJ h1 h) (bS.gJ e h) (bS.gJ f h)
theorem Nb (l:List aD) (hl:l.length≤100000) (u:V) (H:View) (b:aX H u 2 (aT l)):aw Tryz.prog 58 [u] H fun r H'=>aX H' r 2 (aT l)∧dr H H' r:=by
 cases l with
 | nil =>
  refine ⟨by kernel_rfl,?_⟩
  rintro h rfl
  refine ⟨.emp 0,h,JZ u (fun Z μ hp x c=>?_) h,.refl _,.nil,.emp⟩
  rcases b with ⟨_,k,rfl⟩ | ⟨n,rfl,_⟩
  ·exact QE c
  ·exact NK c
 | cons x r =>
  obtain ⟨id,hu,a⟩:=b.sl (by rw[bM]; simp)
  subst hu
  refine aw.of mixed dg ?_
  have he:=sB (H:=H) id 0 r.length 2 2 (aT (x :: r)) a (by rw[bM]; simp)
  rw[Yt,Xv (by rw[bM]; simp)] at he
  simp only[Xt] at hl
  have hlen:(aT (x :: r)).length=r.length+1:=by rw[bM]; rfl
  rw[hlen]
  simp (disch:=omega)only[↓wr,seval,wq,cW,he]
  refine iQ (es:=[]) (.inl ⟨rfl,2,rfl⟩) (by simp[aT,cr,List.all_map,aO]) (by unfold aB; rw[hlen]; simp; omega) (by unfold aB; rw[hlen]; simp; omega) ?_
  intro g i d e
  simp (disch:=omega)only[↓wr,seval,wq]
  refine ⟨by simpa using d,fun j f=>?_⟩
  exact e j f (by simp[owner])
def dG (ks:List Nat):List aD:=ks.map fun (k:Nat)=>(⟨k,0⟩:aD)
theorem yW {a:List Nat} {n:Nat} (h:a.Nodup) (hk:∀ k∈a,k < n):a.length≤n:=by
 have:=ot a (List.range n) h fun x b=>XU.2 (hk x b)
 simpa using this
theorem O0 {l:List Bool} {i:Nat} (h:i < l.length):(dz l).getD i []=[gb (l.getD i false)]:=by
 simp[Xb,h]
structure P0 (g:ag) (l:List aD) (H H':View) (i:Nat) (r su:V) (ks:List Nat) (seen:List Bool):Prop where
 own:ba H' [(r,2,aT (l ++ dG ks)),(su,1,dz seen)]
 f1:dr H H' r
 f2:dr H H' su
 nd:ks.Nodup
 kl:∀ k∈ks,k < g.rules.length
 sl:seen.length=g.ak.length
 s1:∀ (n k:Nat) (R:aW),seen.getD n false=true→g.rules[k]?=some R→R.left=n→k∈ks
 s2:∀ (k:Nat) (R:aW),k∈ks→g.rules[k]?=some R→seen.getD R.left.toNat false=true
 cl:∀ x∈l ++ dG ks,pk g l x
 dn:∀ (j:Nat) (x:aD) (s:Int),j < i→(l ++ dG ks)[j]?=some x→bK g x=(s,true)→s < 0→seen.getD (-1 - s).toNat false=true
 il:i≤(l ++ dG ks).length
theorem P0.len {g:ag} {l:List aD} {H H':View} {i:Nat} {r b:V} {a:List Nat} {seen:List Bool} (h:P0 g l H H' i r b a seen):a.length≤g.rules.length∧(l ++ dG a).length=l.length+a.length:=by
 refine ⟨yW h.nd h.kl,by simp[dG]⟩
def WO (g:ag) (l:List aD) (H:View) (m:Nat) (T:Env) (H':View):Prop:=∃ (i:Nat) (r su:V) (ks:List Nat) (seen:List Bool),m=l.length+g.rules.length - i∧P0 g l H H' i r su ks seen∧T 2=.aJ (ai g) 0∧T 5=r∧T 6=su∧T 7=gi i
theorem JV (g:ag) (W:g.dD) (l:List aD) (hl:∀ x∈l,cU g x) (O:l.length≤10000) (u:V) (H:View) (ho:aX H u 2 (aT l)):aw Tryz.prog 56 [.agg (ai g),u] H fun r H'=>aX H' r 2 (aT (cR g l))∧dr H H' r:=by
 refine aw.of mixed AR ?_
 have b8:=W.rules
 have b9:=W.ak
 simp (disch:=omega)only[↓wr,seval,wq,vC,ai,encS]
 refine ay.dZ ((Nb l (by omega) u H ho).mono ?_)
 rintro r H1 ⟨o1,f1⟩
 simp (disch:=omega)only[↓wr,seval,wq,ai,encS]
 refine ⟨⟨Xo _,by unfold aB; omega,by unfold aB; omega⟩,fun X=>?_,fun X q hq=>?_⟩
 ·exact absurd (by have:=W.qU; omega) (show ¬ g.ak.length=0 by have:=W.qU; omega)
 have an:P0 g l H (H1.set q (.arr 1 (List.replicate g.ak.length [gb false]))) 0 r (.sl q 0 g.ak.length 1) [] (List.replicate g.ak.length false):=by
  have e:List.replicate g.ak.length [gb false]=dz (List.replicate g.ak.length false):=by simp
  have b1:ba H1 [(r,2,aT l)]:=⟨fun x B=>by simp at B; subst B; exact o1,by
   cases hr:owner r <;> simp[YB,hr]⟩
  have kY:H q=.dead∨H q≠.dead:=by cases H q <;> simp
  have D:H q=.dead:=by
   rcases kY with h | h
   ·exact h
   ·have:=(f1 q h).1; rw[hq] at this; exact absurd this.symm h
  refine ⟨?_,fun id c=>?_,fun id c=>?_,.nil,by simp,by simp,fun n k R h=>?_,by simp,fun x B=>.base (by simpa [dG] using B),fun j x s h=>by omega,YM _⟩
  ·have M:=(b1.new hq 1 (List.replicate g.ak.length [gb false])).perm (.swap _ _ _)
   rw[Ym] at M
   rw[e] at M ⊢
   simpa [dG] using M
  ·have P:id≠q:=by rintro rfl; exact c D
   exact ⟨by simp only[View.set]; rw[Xd P]; exact (f1 id c).1,(f1 id c).2⟩
  ·have P:id≠q:=by rintro rfl; exact c D
   exact ⟨by simp only[View.set]; rw[Xd P]; exact (f1 id c).1,by simp[owner,Ne.symm P]⟩
  ·simp only[Xb,YP] at h
   split at h <;> simp at h
 generalize H1.set q (.arr 1 (List.replicate g.ak.length [gb false]))=H2 at an ⊢
 refine aU.intro (WO g l H) (l.length+g.rules.length) ⟨0,r,_,[],_,by omega,an,rfl,rfl,rfl,rfl⟩ ?_
 clear an o1 f1 hq
 rintro m T H' ⟨i,r,I,w,seen,rfl,d,t2,t5,t6,t7⟩
 obtain ⟨ca,cc⟩:=d.len
 have b2:cH r=some (l ++ dG w).length:=by rw[d.own.head.len,bM]
 simp (disch:=omega)only[↓wr,seval,wq,sU,t2,t5,t6,t7,b2]
 apply ah.dec<;>intro hc
 rotate_left
 ·
  have hi:i=(l ++ dG w).length:=by have:=d.il; omega
  simp (disch:=omega)only[↓wr,seval,wq,t5]
  refine ay.dZ ((KP (l ++ dG w) (by omega) r H' d.own.head).mono ?_)
  rintro Q H3 ⟨k3,o3,e3⟩
  simp (disch:=omega)only[↓wr,seval,wq]
  have b3:cR g l=AA (l ++ dG w):=Ip W hl (Cq _) (fun x B=>d.cl x (ry.1 B)) (fun x B=>ry.2 (by simp[B])) (fun x B s k R h1 M N h4=>by
   obtain ⟨j,hj,e⟩:=Yh.1 (ry.1 B)
   have h5:=d.dn j x s (by omega) (by rw[Xc hj,e]) h1 M
   have h6:=d.s1 _ k R h5 N (by omega)
   exact ry.2 (YT _ (Xw.2 ⟨k,h6,rfl⟩)))
  rw[b3]
  refine ⟨o3,fun id c=>?_⟩
  obtain ⟨q1,q2⟩:=d.f1 id c
  exact ⟨by rw[k3 id q2,q1],by rw[e3]; exact q2⟩
 have B:(l ++ dG w)[i]?=some ((l ++ dG w)[i]'(by omega)):=Xc (by omega)
 have a7:=Xm (show i < (l ++ dG w).length by omega)
 have cf:=d.dn
 generalize (l ++ dG w)[i]'(by omega)=x at B a7
 have a8:=d.cl x a7
 have aq:=a8.has hl
 have h1:=Iy g W x aq
 cases E:bK g x with
 | mk s bb =>
 have cg:=xj W aq E
 rw[E] at h1
 obtain ⟨id,hu,c⟩:=d.own.head.sl (by rw[bM]; omega)
 simp only at hu c
 rw[bM] at hu
 simp only[ai,encS,cr] at h1
 simp (disch:=omega)only[↓wr,seval,wq,t2,t5,t6,t7,hu,c,rR B,ai,encS]
 refine ⟨by omega,by rw[bM]; omega,?_⟩
 refine ay.pure h1 ?_
 have skip:(bb=true→s < 0→seen.getD (-1 - s).toNat false=true)→P0 g l H H' (i+1) r I w seen:=fun h =>
  ⟨d.own,d.f1,d.f2,d.nd,d.kl,d.sl,d.s1,d.s2,d.cl,fun j y t hj G O X=>by
   rcases XB j i with q | q
   ·exact d.dn j y t q G O X
   ·have:j=i:=by omega
    subst this
    rw[B] at G
    simp only[Xe] at G
    subst G
    rw[E] at O
    simp only[Xh] at O
    obtain ⟨rfl,rfl⟩:=O
    exact h rfl X,by omega⟩
 cases bb with
 | false =>
  simp (disch:=omega)only[↓wr,seval,wq,t2,t5,t6,t7]
  exact ⟨l.length+g.rules.length - (i+1),by omega,i+1,r,I,w,seen,rfl,skip (by simp),t2,by rw[← hu]; exact t5,t6,rfl⟩
 | true =>
 simp (disch:=omega)only[↓wr,seval,wq]
 apply ah.dec<;>intro X
 ·simp (disch:=omega)only[↓wr,seval,wq,t2,t5,t6,t7]
  exact ⟨l.length+g.rules.length - (i+1),by omega,i+1,r,I,w,seen,rfl,skip (fun _ h=>by omega),t2,by rw[← hu]; exact t5,t6,rfl⟩
 have hG:=nr W aq E
 have bd:(-1 - s).toNat < g.ak.length:=by
  unfold gu at hG
  rw[Xd (by omega)] at hG
  simp at hG; omega
 obtain ⟨J,z,K⟩:=d.own.tail.head.sl (by simp[d.sl]; omega)
 simp only at z K
 rw[Xj,d.sl] at z
 have S:(-1 - s).toNat < seen.length:=by rw[d.sl]; exact bd
 simp (disch:=omega)only[↓wr,seval,wq,t6,z,K,O0 S]
 refine ⟨by omega,by simp[d.sl]; omega,?_⟩
 apply ah.split<;>intro M
 ·simp (disch:=omega)only[↓wr,seval,wq,t2,t5,t6,t7]
  exact ⟨l.length+g.rules.length - (i+1),by omega,i+1,r,I,w,seen,rfl,skip (fun _ _=>M),t2,by rw[← hu]; exact t5,by rw[← z]; exact t6,rfl⟩
 obtain ⟨n,O⟩:∃ n:Nat,-1 - s=(n:Int):=⟨(-1 - s).toNat,by omega⟩
 have bl:(-1 - s).toNat=n:=by omega
 rw[bl] at bd S M
 have b4:(dz seen).set n [gb true]=dz (seen.set n true):=by simp[YL]
 simp (disch:=omega)only[↓wr,seval,wq,t2,t5,t6,t7,z,K,ai,encS,O,O0 S,b4]
 refine ⟨by omega,by simp[d.sl]; omega,?_⟩
 have ar:∀ m,(seen.set n true).getD m false=if n=m then true else seen.getD m false:=fun m=>by
  rw[fj]
  by_cases e:n=m
  ·rw[Xg ⟨e,S⟩,Xg e]
  ·rw[Xd (fun h=>e h.1),Xd e]
 have o2:ba (H'.set J (.arr 1 (dz (seen.set n true)))) [(r,2,aT (l ++ dG w)),(I,1,dz (seen.set n true))]:=by
  have N:=d.own.perm (.swap _ _ _)
  rw[z] at N ⊢
  exact (N.put (es':=dz (seen.set n true)) (by simp) (by simp[d.sl])).perm (.swap _ _ _)
 have L:∀ id,H id≠.dead→id≠J:=fun id c e=>by
  have:=(d.f2 id c).2
  rw[z,e] at this
  exact this rfl
 have a1:dr H (H'.set J (.arr 1 (dz (seen.set n true)))) r:=fun id c=>⟨by simp only[View.set]; rw[Xd (L id c)]; exact (d.f1 id c).1,(d.f1 id c).2⟩
 have a6:dr H (H'.set J (.arr 1 (dz (seen.set n true)))) I:=fun id c=>⟨by simp only[View.set]; rw[Xd (L id c)]; exact (d.f2 id c).1,(d.f2 id c).2⟩
 generalize H'.set J (.arr 1 (dz (seen.set n true)))=H4 at o2 a1 a6 ⊢
 refine aU.up g.rules.length (fun k T Y=>∃ (Q:V) (f:List Nat),f=w ++ (List.range k).filter (fun (q:Nat)=>decide ((av g q).left=n))∧ba Y [(Q,2,aT (l ++ dG f)),(I,1,dz (seen.set n true))]∧dr H Y Q∧dr H Y I ∧
  T 2=.aJ (ai g) 0∧T 5=Q∧T 6=I∧T 7=gi i∧T 8=gi s∧T 51=.aE (g.rules.map aP)∧T 52=gi g.rules.length∧T 53=gi k) ⟨r,w,by simp,o2,a1,a6,t2,by rw[← hu]; exact t5,by rw[← z]; exact t6,t7,rfl,rfl,rfl,rfl⟩ ?_
 clear t2 t5 t6 t7 o2 a1 a6
 rintro k j T5 Y hk ⟨Q,f,F,o5,f5,g5,t2,t5,t6,t7,t8,t51,t52,t53⟩
 have bn:∀ q,q∈w→¬ (av g q).left=n:=fun q hq e=>by
  have hR:g.rules[q]?=some (av g q):=by unfold av; exact getD_some (d.kl q hq)
  have:=d.s2 q _ hq hR
  rw[e] at this
  simp only[Xy] at this
  rw[M] at this; simp at this
 have Z:f.Nodup:=by
  rw[F,Yc]
  refine ⟨d.nd,(List.nodup_range).filter _,fun a ha b hb e=>?_⟩
  subst e
  exact bn a ha (by simpa using (XY.1 hb).2)
 simp (disch:=omega)only[↓wr,seval,wq,tu,t2,t5,t6,t7,t8,t51,t52,t53]
 apply ah.dec<;>intro b5
 ·have hR:g.rules[k]?=some (av g k):=by unfold av; exact getD_some (by omega)
  have bq:∀ q∈f,q < g.rules.length:=fun q hq=>by
   rw[F] at hq
   rcases XE.1 hq with h | h
   ·exact d.kl q h
   ·have:=XU.1 (XY.1 h).1; omega
  have ch:=yW Z bq
  have p:w ++ (List.range (k+1)).filter (fun (q:Nat)=>decide ((av g q).left=n))=if (av g k).left=n then f ++ [k] else f:=by
   rw[Ya,YG,← XO,← F]
   by_cases e:(av g k).left=n <;> simp[e]
  generalize av g k=R at hR p
  simp (disch:=omega)only[↓wr,seval,wq,t2,t5,t6,t7,t8,t51,t52,t53,Xf,hR,Xk,aP]
  intro q hq
  rw[set_set]
  have br:(Y.set q (.arr 3 [[gi R.left,encI R.right,gi R.prec]])) q=.arr 3 [[gi R.left,encI R.right,gi R.prec]]:=by simp[View.set]
  have D:∀ id,H id≠.dead→id≠q:=fun id c e=>by
   have:=(f5 id c).1
   rw[e,hq] at this
   exact c (by rw[e]; exact this.symm)
  have o6:=o5.fresh (o:=.arr 3 [[gi R.left,encI R.right,gi R.prec]]) hq
  have f6:dr H (Y.set q (.arr 3 [[gi R.left,encI R.right,gi R.prec]])) Q:=fun id c=>⟨by simp only[View.set]; rw[Xd (D id c)]; exact (f5 id c).1,(f5 id c).2⟩
  have g6:dr H (Y.set q (.arr 3 [[gi R.left,encI R.right,gi R.prec]])) I:=fun id c=>⟨by simp only[View.set]; rw[Xd (D id c)]; exact (g5 id c).1,(g5 id c).2⟩
  generalize Y.set q (.arr 3 [[gi R.left,encI R.right,gi R.prec]])=H6 at br o6 f6 g6
  clear o5 f5 g5 hq D
  simp (disch:=omega)only[↓wr,seval,wq,t2,t5,t6,t7,t8,br,O]
  refine ⟨rfl,?_⟩
  apply ah.eq<;>intro he
  ·simp (disch:=omega)only[↓wr,seval,wq,t2,t5,t6,t7,t8]
   intro q2 bs
   simp (disch:=omega)only[↓wr,seval,wq,bT]
   have C:∀ id,H id≠.dead→id≠q2:=fun id c e=>by
    have:=(f6 id c).1
    rw[e,bs] at this
    exact c (by rw[e]; exact this.symm)
   refine cB (o6.fresh bs) (by simp[aO]) (by unfold aB; rw[bM]; simp[dG]; omega) (by unfold aB; rw[bM]; simp[dG]; omega) ?_
   intro r3 H7 o7 l7
   simp (disch:=omega)only[↓wr,seval,wq,t2,t6,t7,t8,t51,t52,t53]
   rw[Xg he] at p
   have f7:∀ v,dr H H6 v→(∀ id,owner v=some id→owner Q≠some id∧owner r3≠some id)→dr H H7 v:=fun v hv cj id c=>by
    obtain ⟨e1,e2⟩:=hv id c
    obtain ⟨k1,k2⟩:=l7 id (by simp only[View.set]; rw[Xd (C id c),e1]; exact c) (f6 id c).2
    refine ⟨?_,e2⟩
    rw[k1]
    simp only[View.set]
    rw[Xd (C id c),e1]
   have f8:dr H H7 r3:=fun id c=>by
    obtain ⟨e1,e2⟩:=f6 id c
    obtain ⟨k1,k2⟩:=l7 id (by simp only[View.set]; rw[Xd (C id c),e1]; exact c) e2
    refine ⟨?_,k2⟩
    rw[k1]
    simp only[View.set]
    rw[Xd (C id c),e1]
   refine aF hk (by omega) ⟨r3,f ++ [k],p.symm,?_,f8,fun id c=>⟨(f8 id c).1,(g6 id c).2⟩,t2,rfl,t6,t7,t8,t51,t52,rfl⟩
   have e1:aT (l ++ dG (f ++ [k]))=aT (l ++ dG f) ++ [[gi k,gi 0]]:=by simp[aT,dG,cr]
   rw[e1]
   exact o7
  ·simp (disch:=omega)only[↓wr,seval,wq,t2,t5,t6,t7,t8,t51,t52,t53]
   rw[Xd he] at p
   exact aF hk (by omega) ⟨Q,f,p.symm,o6,f6,g6,t2,t5,t6,t7,t8,t51,t52,rfl⟩
 ·have b7:k=g.rules.length:=by omega
  subst b7
  simp (disch:=omega)only[↓wr,seval,wq,t2,t5,t6,t7]
  have A:∀ q,q∈f↔q∈w∨(q < g.rules.length∧(av g q).left=n):=fun q=>by
   rw[F,XE,XY,XU,Xr]
  have bx:∀ (q:Nat) (R:aW),g.rules[q]?=some R→av g q=R:=fun q R h=>by
   unfold av
   rw[Xy,Xb,h]; rfl
  have b0:∀ (j:Nat),j≤i→(l ++ dG f)[j]?=(l ++ dG w)[j]?:=fun j hj=>by
   rw[F,dG,XD,← XO]
   exact XA (by simp only[dG] at hc; omega)
  refine ⟨l.length+g.rules.length - (i+1),by omega,i+1,Q,I,f,seen.set n true,rfl,⟨o5,f5,g5,Z,fun q hq=>?_,by rw[List.length_set]; exact d.sl,fun m q R N h4 h5=>?_,fun q R N h4=>?_,fun y G=>?_,fun j y t hj G U X=>?_,?_⟩,t2,t5,t6,rfl⟩
  ·rcases (A q).1 hq with h | h
   ·exact d.kl q h
   ·exact h.1
  ·rw[ar] at N
   split at N
   ·rename_i e
    subst e
    exact (A q).2 (.inr ⟨(Xq.1 h4).1,by rw[bx q R h4]; exact h5⟩)
   ·exact (A q).2 (.inl (d.s1 m q R N h4 h5))
  ·rw[ar]
   rcases (A q).1 N with h | h
   ·split
    ·rfl
    ·exact d.s2 q R h h4
   ·rw[bx q R h4] at h
    rw[h.2,Xy,Xg rfl]
  ·rcases XE.1 G with h | h
   ·exact d.cl y (YR _ h)
   ·obtain ⟨q,hq,rfl⟩:=Xw.1 h
    rcases (A q).1 hq with h | h
    ·exact d.cl _ (YT _ (Xw.2 ⟨q,h,rfl⟩))
    ·have hR:g.rules[q]?=some (av g q):=by unfold av; exact getD_some h.1
     exact .step a8 E (by omega) hR (by rw[h.2,O])
  ·rw[b0 j (by omega)] at G
   rw[ar]
   rcases XB j i with q | q
   ·split
    ·rfl
    ·exact d.dn j y t q G U X
   ·have:j=i:=by omega
    subst this
    rw[B] at G
    simp only[Xe] at G
    subst G
    rw[E] at U
    simp only[Xh,and_true] at U
    subst U
    rw[bl,Xg rfl]
  ·rw[F,dG,XD,← XO,XV]
   simp only[dG] at hc
   omega
theorem FC {α:Type} (p:α→Bool):∀ (l:List α) (i:Int),0≤i→cG p l i = -1→∀ x∈l,p x=false
 | [],_,_,_=>by simp
 | x :: l,i,b,h=>by
  rw[cG] at h
  split at h
  ·omega
  ·rename_i hp
   intro y a
   rcases Xs.1 a with rfl | a
   ·simpa using hp
   ·exact FC p l (i+1) (by omega) h y a
theorem E6 {α:Type} (p:α→Bool):∀ (l:List α) (i:Int),0≤i→cG p l i = -1∨∃ (k:Nat) (x:α),cG p l i=i+k∧l[k]?=some x∧p x=true∧∀ y∈l.take k,p y=false
 | [],_,_=>.inl rfl
 | x :: l,i,e=>by
  rw[cG]
  split
  ·rename_i hp
   exact .inr ⟨0,x,by simp,rfl,hp,by simp⟩
  ·rename_i hp
   rcases E6 p l (i+1) (by omega) with h | ⟨k,y,h1,b,c,d⟩
   ·exact .inl h
   ·refine .inr ⟨k+1,y,by rw[h1]; push_cast; omega,by simpa using b,c,fun z a=>?_⟩
    rw[YZ] at a
    rcases Xs.1 a with rfl | a
    ·simpa using hp
    ·exact d z a
def yy:SF:=⟨ae [ab [aS 6 0],ab [aa 10 0,ep 11 10,ao 12 4 11,aj 13 12,aa 14 1,aa 15 2,((some 16),.op (.bV 1 1 [(.val (.int .i64 0))] [(0,(.tmp 15))])),bz 17 28 [13,14,16],aa 9 17,fI 18 0 9,fI 19 1 9,aa 7 18,aa 8 19],ab [aa 20 7,aa 6 20],.ret],
 [.tmp 6],21⟩
theorem BS:aR Tryz.prog 119 []=some yy:=by kernel_rfl
def rP:SF:=⟨ae [ab [bu 3 false],.region false [⟨none,[aa 4 0,aH 5 .geq 4 0,aa 6 5]⟩,⟨(some (6,false)),[aj 7 1,ep 8 7,ao 9 5 8,aj 10 9,aa 11 0,((some 12),.op (.arith .sub (.val (.val (.int .i64 (-1)))) (.tmp 11))),aQ 13 1 10 12,aj 14 13,de 15 14]⟩,⟨none,[cz 16 6 15,aa 3 16]⟩],.ret],
 [.tmp 3],17⟩
theorem wh:aR Tryz.prog 172 []=some rP:=by kernel_rfl
def tb:SF:=⟨ae [ab [cI 2 0,bu 4 false],ab [aa 5 1,((some 6),.op (.s9 172 [] [(.tmp 2)])),bz 7 91 [5,6],de 8 7,aa 4 8],.ret],
 [.tmp 4],9⟩
theorem yD:aR Tryz.prog 121 [2]=some tb:=by kernel_rfl
def CR:SC :=
 ae [ab [aV 8 .lss 7 6],bY 8 (.exit 0),.block 1 (ae [ab [aQ 9 1 5 7,aj 10 9,aa 4 10],ab [aa 11 2,aa 12 4,bz 13 124 [12],aV 14 .or 11 13,aa 2 14]]),ab [aH 15 .add 7 1,aa 7 15]]
def Jd:SF:=⟨ae [ab [((some 2),.op (.fa (.val (.val (.int .u32 0)))))],ae [ab [aa 5 0,aN 6 5,aS 7 0],b6 0 CR],ab [aa 16 2,aa 2 16],.ret],
 [.tmp 2],17⟩
theorem JF:aR Tryz.prog 120 []=some Jd:=by kernel_rfl
theorem GU {H:View} {W:Nat} {f0 f1 f2 f3 f5 f6 f7 f8 f9:V} {a:List aI} (hW:H W=.arr 10 [[f0,f1,f2,f3,bj a,f5,f6,f7,f8,f9]]) (c:aL a) (he:∀ s∈a,aL s.aG∧∀ e∈s.aG,cy e.sym∧cy e.to) (st sym:Int) :
  aw Tryz.prog 119 [.ptr W 0 0,gi st,gi sym] H fun r H'=>r=gi (eT a st [sym]).1∧∀ id,H id≠.dead→H' id=H id:=by
 refine aw.of mixed BS ?_
 simp (disch:=omega)only[↓wr,seval,wq,yy,hW]
 intro q hq
 have hw:=Rj a c he st [sym] (by unfold aL; simp)
 refine ay.Bx hw (by kernel_rfl) (.bp _ fun i hi=>by
  match i,hi with
  | 0,_=>exact ⟨_,rfl⟩
  | 1,_=>exact ⟨_,rfl⟩) ⟨.tree (kD a),.tree (.val _),eO.Sh (l:=[sym]) (.inr ⟨q,rfl,by simp[View.set]⟩),trivial⟩ ?_
 simp (disch:=omega)only[↓wr,seval,wq]
 intro id b
 rw[Xd (fun e=>b (by rw[e]; exact hq))]
theorem PK (l:List Int) (hl:aL l) (f:FuncId) (cap:List V) (p:Int→Bool) (H:View) (e:∀ x∈l,aw Tryz.prog f (gi x :: cap) H fun r H'=>r=gb (p x)∧H'=H) :
  aw Tryz.prog 133 [encI l,.fn f [] cap] H fun r H'=>r=gi (cG p l 0)∧H'=H:=by
 refine aw.of mixed iU ?_
 unfold aL at hl
 simp (disch:=omega)only[↓wr,seval,wq,gx,encI]
 refine aU.up l.length (fun i T H'=>H=H'∧cG p (l.drop i) i=cG p l 0∧T 0=encI l∧T 1=.fn f [] cap∧T 7=gi l.length∧T 8=gi i) ⟨rfl,rfl,rfl,rfl,rfl,rfl⟩ ?_
 rintro i k T _ hk ⟨rfl,hi,a,h1,b,c⟩
 simp (disch:=omega)only[↓wr,seval,wq,fO,a,h1,b,c]
 apply ah.dec<;>intro g
 ·have d:l[i]?=some (l[i]'(by omega)):=Xc (by omega)
  have hm:l[i]'(by omega)∈l:=Xm _
  rw[fp (show i < l.length by omega)] at hi
  generalize l[i]'(by omega)=x at d hm hi
  simp (disch:=omega)only[↓wr,seval,wq,a,h1,b,c,encI,Xf,d,Xk]
  refine ay.dZ ((e x hm).mono ?_)
  rintro r h ⟨rfl,rfl⟩
  simp only[cG] at hi
  simp (disch:=omega)only[↓wr,seval,wq]
  apply ah.split<;>intro hp
  ·simp (disch:=omega)only[↓wr,seval,wq,a,h1,b,c]
   rw[← hi,Xg hp]
  ·simp (disch:=omega)only[↓wr,seval,wq,a,h1,b,c]
   refine aF hk (by omega) ⟨rfl,?_,a,h1,b,rfl⟩
   rw[Xd (by simp[hp])] at hi
   push_cast; exact hi
 ·rw[XK (by omega)] at hi
  simp (disch:=omega)only[↓wr,seval,wq,a,h1,b,c]
  rw[← hi]; rfl
theorem HF (l:List Int) (hl:aL l) (f:FuncId) (cap:List V) (p:Int→Bool) (H:View) (a:∀ x∈l,aw Tryz.prog f (gi x :: cap) H fun r H'=>r=gb (p x)∧H'=H) :
  aw Tryz.prog 91 [encI l,.fn f [] cap] H fun r H'=>r=gb (l.any p)∧H'=H:=by
 refine aw.of mixed iq ?_
 simp (disch:=omega)only[↓wr,seval,wq,fD]
 refine ay.dZ ((PK l hl f cap p H a).mono ?_)
 rintro r b ⟨rfl,rfl⟩
 simp (disch:=omega)only[↓wr,seval,wq]
 rw[← sT p l 0 (Int.le_refl _)]
theorem Qt {H:View} {W:Nat} {f0 f1 f2 f3 f4 f6 f7 f8 f9:V} {null:List Bool} (hW:H W=.arr 10 [[f0,f1,f2,f3,f4,bO null,f6,f7,f8,f9]]) (s:Int) (hs:cy s∧(s < 0→-1 - s < null.length)) :
  aw Tryz.prog 172 [gi s,.aJ [.ptr W 0 0] 0] H fun r H'=>r=gb (!(if 0≤s then false else null.getD (-1 - s).toNat false))∧H'=H:=by
 obtain ⟨a,c⟩:=hs
 unfold cy at a
 refine aw.of mixed wh ?_
 simp (disch:=omega)only[↓wr,seval,wq,rP]
 apply ah.dec<;>intro d
 ·simp (disch:=omega)only[↓wr,seval,wq]
  rw[Xg d]; rfl
 ·have e:null[(-1 - s).toNat]?=some (null.getD (-1 - s).toNat false):=getD_some (by have:=c (by omega); omega)
  generalize null.getD (-1 - s).toNat false=b at e ⊢
  simp (disch:=omega)only[↓wr,seval,wq,hW,bO,Xf,e,Xk]
  rw[Xd d]
theorem RR {H:View} {W:Nat} {f0 f1 f2 f3 f4 f6 f7 f8 f9:V} {null:List Bool} (hW:H W=.arr 10 [[f0,f1,f2,f3,f4,bO null,f6,f7,f8,f9]]) (l:List Int) (hl:aL l) (hs:∀ s∈l,cy s∧(s < 0→-1 - s < null.length)) :
  aw Tryz.prog 121 [.ptr W 0 0,encI l] H fun r H'=>r=gb (cE l null false)∧H'=H:=by
 refine aw.of mixed yD ?_
 simp (disch:=omega)only[↓wr,seval,wq,tb]
 refine ay.dZ ((HF l hl 172 [.aJ [.ptr W 0 0] 0] (fun s=>!(if 0≤s then false else null.getD (-1 - s).toNat false)) H (fun s h=>Qt hW s (hs s h))).mono ?_)
 rintro r a ⟨rfl,rfl⟩
 simp (disch:=omega)only[↓wr,seval,wq]
 rw[cE,List.not_any_eq_all_not]
 simp
theorem Fx (t:Int):aA Tryz.prog 120 [encI [t]] (gw (fG t)):=by
 refine aA.val (by intro v a; simp at a; subst a; exact gp _) fun H=>?_
 refine aw.of mixed JF ?_
 simp (disch:=omega)only[↓wr,seval,wq,Jd,encI]
 refine aU.up 1 (fun i T H'=>T 2=gw (if i=0 then 0 else fG t)∧T 5=encI [t]∧T 6=gi 1∧T 7=gi i) ⟨rfl,rfl,rfl,rfl⟩ ?_
 rintro i k T H' hk ⟨t2,t5,t6,t7⟩
 simp (disch:=omega)only[↓wr,seval,wq,CR,t2,t5,t6,t7]
 apply ah.dec<;>intro b
 ·have hi:i=0:=by omega
  subst hi
  simp (disch:=omega)only[↓wr,seval,wq,t2,t5,t6,t7,encI,show ([[gi t]]:List (List V))[0]?=some [gi t] from rfl]
  refine ay.pure (GA t) ?_
  simp (disch:=omega)only[↓wr,↓reduceIte,wq,Nat.reduceEqDiff,Nat.reduceAdd,Nat.reduceLT,Nat.reduceLeDiff,Int.reduceNeg,Int.reduceToNat,reduceCtorEq,t2,t5,t6,t7,Ec]
  exact aF hk (by omega) ⟨by show gw ((0:BV) ||| fG t)=gw (fG t); rw[show ((0:BV) ||| fG t)=fG t by simp],t5,t6,rfl⟩
 ·have hi:i≠0:=by omega
  rw[Xd hi] at t2
  simp (disch:=omega)only[↓wr,seval,wq,t2]
section
variable {κ:Type} [BEq κ] [LawfulBEq κ] {kv:κ→V} {P:Program} {T:Env} {H:View} {kt et t ty:TypeId}
theorem V7 {K:V→View→Prop} {w:cD (T,H,K)} {x i y:Operand} {id c:Nat} {m:bQ κ} {k:κ} {v:V} (hm:dA P t=some (kt,et)) (hk:Hj P kt kv)
  (d:ev T x=.mp id) (hi:ev T i=kv k) (e:ev T y=v) (hH:H id=.map (bH kv m) c) (f:gR m c)
  (h:∀ g,gR (bF k v c m) g→K .any (H.set id (.map (bH kv (bF k v c m)) g))):jH P (.mapUpdate t x i y) ty T H K w:=by
 intro n _
 have a:=hk.find k false m
 have b:=nI (kv:=kv) k m
 cases l:gV k m with
 | some j =>
  rw[l] at b a
  obtain ⟨z,h1,r,s,o,p,q⟩:=b
  refine ⟨.any,.fk id (.map ((bH kv m).set j (kv k,v,z.2.2)) c),[id],?_,?_⟩
  ·simp only[sI,cp,oper,fy,hm,d,hi,e,hH,a,p,hk.same k,if_true]
  ·rw[(q v c).1]; exact h c (f.RA o v c)
 | none =>
  rw[l] at b a
  refine ⟨.any,.fk id (.map (bH kv m ++ [(kv k,v,c)]) (c+1)),[id],?_,?_⟩
  ·simp only[sI,cp,oper,fy,hm,d,hi,e,hH,a]
  ·rw[(b.2.2 v c).1]; exact h (c+1) (f.put k v)
end
def eR (x:Int × Int):V:=.agg [.val (.int .i64 x.1),.val (.int .i64 x.2)]
def qy (x:Int × Int):Value:=.agg #[.int .i64 x.1,.int .i64 x.2]
theorem D5 (x:Int × Int):dq (eR x)=some (qy x):=rfl
theorem Fp:∀ m:bQ (Int × Int),iC (bH eR m)=some (m.map fun x=>{ key:=qy x.1,val:=.nilFunc,born:=x.2.2 })
 | []=>rfl
 | x :: r=>by
  have:=Fp r
  simp only[bH] at this
  simp[bH,iC,D5,this]
structure Su (P:Program) (kt:TypeId):Prop where
 ty:∃ f0 f1:Field,P.underlying kt=some (.struct #[f0,f1])∧f0.name≠ "_" ∧ f1.name≠ "_" ∧ P.underlying f0.type=some (.int .i64)∧P.underlying f1.type=some (.int .i64)∧f0.offset=0∧f1.offset=1
 held:P.stoodInHeld kt=false
theorem AL {P:Program} {kt:TypeId} (h:Su P kt):Hj P kt eR where
 same:=fun k=>by simp[sameKey,D5,qy,Instr.sameBits]
 find:=by
  obtain ⟨f0,f1,hu,q,n1,f,g,o0,l⟩:=h.ty
  have heq:∀ a b:Int × Int,bD P (Op.equal kt (qy a) (qy b))=some (a == b):=by
   intro a b
   have s:gI P 9998 #[.int .i64 a.1,.int .i64 a.2] #[.int .i64 b.1,.int .i64 b.2] [f0,f1] ((a.1 == b.1) && ((a.2 == b.2) && true)) :=
    .int f0 _ _ .i64 _ _ q f (by rw[o0]; rfl) (by rw[o0]; rfl) (.int f1 _ _ .i64 _ _ n1 g (by rw[l]; rfl) (by rw[l]; rfl) .nil)
   rw[qy,qy,th hu h.held s]
   congr 1
   rw[Yl]
   simp only[Xl,Yo,and_true]
   cases a; cases b; simp
  have c:∀ (k:Int × Int) (m:bQ (Int × Int)) (i:Nat),bD P (Instr.findAsking kt (qy k) (m.map fun x=>{ key:=qy x.1,val:=.nilFunc,born:=x.2.2 }) i)=some ((gV k m).map fun j=>(i+j,.nilFunc)):=by
   intro k m
   induction m with
   | nil=>intro i; rfl
   | cons x r t =>
    intro i
    simp only[XF,Instr.findAsking,bt,heq,XS,gV]
    cases hk:k == x.1 with
    | true=>simp[zj]
    | false =>
     simp only[Xz,if_false,t (i+1),Option.map_map]
     congr 2
     funext j
     simp only[Function.comp]
     congr 1
     omega
  have hint:∀ (e:Bool) (n:TypeId) (v:Value),P.underlying n=some (.int .i64)→bD P (Instr.checkKey e 9999 n v)=some ():=fun e n v o=>wN o trivial e 9998 v
  have d:∀ (k:Int × Int) (e:Bool),bD P (Instr.checkKey e 10000 kt (qy k))=some ():=by
   intro k e
   unfold Instr.checkKey qy
   rw[bt,er hu,XS]
   have u:=jT (P:=P) f (.inr ⟨_,rfl⟩) #[.int .i64 k.1,.int .i64 k.2] f0.offset (v:=.int .i64 k.1) (by rw[o0]; rfl)
   have w:=jT (P:=P) g (.inr ⟨_,rfl⟩) #[.int .i64 k.1,.int .i64 k.2] f1.offset (v:=.int .i64 k.2) (by rw[l]; rfl)
   simp only[← Array.forIn_toList,List.forIn_cons,List.forIn_nil,Xg q,Xg n1,bt,u,w,hint e _ _ f,hint e _ _ g,XS,zj]
  intro k e m
  have p:bD P (underlying kt)=some _:=er hu
  simp only[mZ,D5,Fp,bt,d,XS]
  have:bD P (Instr.findKey kt (qy k) (m.map fun x=>{ key:=qy x.1,val:=.nilFunc,born:=x.2.2 }))=some ((gV k m).map fun j=>(0+j,.nilFunc)):=by
   unfold Instr.findKey
   rw[bt,p,XS]
   cases m with
   | nil=>rfl
   | cons x r=>exact c k (x :: r) 0
  rw[this]
  cases gV k m with
  | none=>rfl
  | some j=>simp
def wa:SC :=
 ae [ab [aV 29 .lss 28 27],bY 29 (.exit 2),.block 3 (ae [ab [aQ 30 2 26 28,bg 31 2 30,((some 9),.op (.alloc [(.val (.int .i64 0)),(.val (.int .i64 0))])),bU 2 9 31],ab [ao 32 0 9,aj 33 32,aH 34 .lss 33 0],bf 34 (ae [ab [aa 35 6,ao 36 0 9,aj 37 36,((some 38),.op (.arith .sub (.val (.val (.int .i64 (-1)))) (.tmp 37))),((some 39),.op (.build [(.val (.int .i64 0)),(.val (.int .i64 0))] [(0,1,(.tmp 35)),(1,1,(.tmp 38))])),((some 10),.op (.alloc [(.val (.int .i64 0)),(.val (.int .i64 0))])),bU 2 10 39],ab [aa 40 5,ep 41 40,ao 42 6 41,aj 43 42,bg 44 2 10,aa 45 5,ep 46 45,ao 47 7 46,aj 48 47,aN 49 48,(none,.op (.old (.mapUpdate 110 (.tmp 43) (.tmp 44) (.tmp 49)) 0))],ab [aa 50 5,aa 51 5,ep 52 51,ao 53 7 52,aj 54 53,bg 55 2 10,((some 56),.op (.bV 1 2 [(.val (.int .i64 0)),(.val (.int .i64 0))] [(0,(.tmp 55))])),gY 57 2 16 54 56,ep 58 50,ao 59 7 58,bU 1 59 57]])]),ab [aH 60 .add 28 1,aa 28 60]]
def wc:SC :=
 ae [ab [aV 21 .lss 20 19],bY 21 (.exit 0),.block 1 (ae [ab [aa 22 20,aQ 23 2 18 20,bg 24 2 23,((some 7),.op (.alloc [(.emp 1),(.emp 1)])),aa 6 22,bU 2 7 24],ab [ao 25 1 7,aj 26 25,aN 27 26,aS 28 0],b6 2 wa]),ab [aH 61 .add 20 1,aa 20 61]]
def zu:SF:=⟨ae [ab [cI 2 0,((some 4),.op (.fa (.val (.val (.pointer none)))))],.region true [⟨none,[bg 11 4 2,aa 12 1,bg 13 4 2,bz 14 118 [13],((some 15),.op (.pD)),((some 16),.op (.build [(.emp 1),(.emp 1),(.emp 1),(.val (.int .i64 0)),(.emp 1),(.emp 1),(.val (.map none)),(.emp 1),(.emp 1),(.emp 1)] [(0,4,(.tmp 11)),(4,1,(.tmp 12)),(5,1,(.tmp 14)),(6,1,(.tmp 15))])),((some 17),.op (.box (.tmp 16))),aa 5 17]⟩],ae [ab [aa 18 1,aN 19 18,aS 20 0],b6 0 wc],ab [aa 62 5,aa 63 5,ep 64 63,ao 65 7 64,aj 66 65,aN 67 66,((some 68),.op (.make 1 4 [(.val (.int .u32 0))] (.tmp 67) (.tmp 67))),ep 69 62,ao 70 8 69,bU 1 70 68],ab [aa 71 5,aa 72 5,ep 73 72,ao 74 7 73,aj 75 74,aN 76 75,((some 77),.op (.make 1 24 [(.emp 1)] (.tmp 76) (.tmp 76))),ep 78 71,ao 79 9 78,bU 1 79 77],ab [aa 80 5,aa 4 80],.ret],
 [.tmp 4],81⟩
theorem CY:aR Tryz.prog 72 [2]=some zu:=by kernel_rfl
theorem xK:Su Tryz.prog 116 :=
 ⟨⟨⟨ "state",3,0,false,"","gerund/look",0⟩,⟨ "non",3,1,false,"","gerund/look",8⟩,by kernel_rfl,by decide,by decide,Tryz.underlying3,Tryz.underlying3,rfl,rfl⟩,by kernel_rfl⟩
def jW (i:Nat) (l:List bX):List (Int × Int):=(l.filter fun e=>decide (e.sym < 0)).map fun e=>((i:Int),-1 - e.sym)
def lf (a:List aI) (n:Nat):List (Int × Int):=(List.range n).flatMap fun i=>jW i (a.getD i aM).aG
abbrev aZ (a:List aI):List (Int × Int):=lf a a.length
theorem xe (a:List aI) (n:Nat):lf a (n+1)=lf a n ++ jW n (a.getD n aM).aG:=by
 unfold lf
 rw[Ya,List.flatMap_append]; simp
theorem RX {i j:Nat} {l:List bX} {e:bX} (h:l[j]?=some e):jW i (l.take (j+1))=if e.sym < 0 then jW i (l.take j) ++ [((i:Int),-1 - e.sym)] else jW i (l.take j):=by
 unfold jW
 rw[FG h]
 by_cases he:e.sym < 0
 ·simp[he]
 ·simp[he]
theorem Uo {a:List aI} : ∀ {n m:Nat},n≤m→lf a n <+: lf a m:=fun {n m} h=>by
 induction h with
 | refl=>exact List.prefix_refl _
 | step _ b=>rw[xe]; exact b.trans (List.prefix_append _ _)
theorem KI (i:Nat) (l:List bX):(jW i l).length≤l.length:=by
 unfold jW; rw[Xj]; exact X9 _ _
theorem lY {a:List aI} (h:∀ s∈a,s.aG.length≤40):∀ n,(lf a n).length≤40 * n
 | 0=>by simp[lf]
 | n+1=>by
  have b:=lY h n
  rw[xe,XV]
  have h1:=KI n (a.getD n aM).aG
  have c:(a.getD n aM).aG.length≤40:=by
   rcases XB n a.length with q | q
   ·exact h _ (Xi (getD_some q))
   ·rw[Xb,XL q]; simp[aM]
  omega
abbrev ng (ws:List (Int × Int)):List (List V):=ws.map fun x=>[gi x.1,gi x.2]
def Je (ws:List (Int × Int)) (M:bQ (Int × Int)):Prop:=∀ (k:Nat) (x:Int × Int),ws[k]?=some x→getM M x=some (gi k)
theorem Je.put {ws:List (Int × Int)} {M:bQ (Int × Int)} (h:Je ws M) {x:Int × Int} (d:x ∉ ws) (c:Nat):Je (ws ++ [x]) (bF x (gi ws.length) c M):=fun k y a=>by
 rw[qg]
 by_cases hk:k < ws.length
 ·rw[XA hk] at a
  have b:(y == x)=false:=beq_eq_false_iff_ne.2 fun e=>d (e ▸ Xi a)
  rw[b]
  exact h k y a
 ·rw[XP (by omega)] at a
  have:k - ws.length=0:=by
   rcases Nat.eq_zero_or_pos (k - ws.length) with q | q
   ·exact q
   ·rw[XL (by simp; omega)] at a; simp at a
  rw[this] at a
  simp at a
  subst a
  rw[YQ,Xg rfl,show k=ws.length by omega]
abbrev jb (A:List (V × List Nat)):List cw:=A.map fun x=>(x.1,1,fF x.2)
structure cX (g:ag) (a:List aI) (H:View) (W qn cM:Nat) (M:bQ (Int × Int)) (uw:V) (s e:Nat) (ws:List (Int × Int)) (Sl:List BV) (A:List (V × List Nat)) (L:List cw):Prop where
 own:ba H ((.sl W 0 1 10,10,[[.aE (g.af.map bW),.aE (g.ak.map fun s=>[gs s]),.aE (g.rules.map aP),gi g.start,bj a,bO (au g false),.mp qn,uw,.sl s 0 ws.length 1,.sl e 0 ws.length 1]]) :: (uw,2,ng ws) :: (.sl s 0 ws.length 1,1,dL Sl) :: (.sl e 0 ws.length 1,1,bm A) :: (jb A ++ L))
 mp:H qn=.map (bH eR M) cM
 bo:gR M cM
 num:Je ws M
 sl:Sl.length=ws.length
 al:A.length=ws.length
def LM (g:ag) (a:List aI) (H:View) (W qn:Nat) (ws:List (Int × Int)):Prop:=∃ (uw:V) (cM:Nat) (M:bQ (Int × Int)),
 ba H [(.sl W 0 1 10,10,[[.aE (g.af.map bW),.aE (g.ak.map fun s=>[gs s]),.aE (g.rules.map aP),gi g.start,bj a,bO (au g false),.mp qn,uw,.emp 1,.emp 1]]),(uw,2,ng ws)]∧H qn=.map (bH eR M) cM∧gR M cM∧Je ws M
theorem LM.fresh {g:ag} {a:List aI} {H:View} {W qn:Nat} {ws:List (Int × Int)} (h:LM g a H W qn ws) {q:Nat} (hq:H q=.dead) {o:c6} : LM g a (H.set q o) W qn ws:=by
 obtain ⟨uw,cM,M,h1,b,c,d⟩:=h
 refine ⟨uw,cM,M,h1.fresh hq,?_,c,d⟩
 simp only[View.set]; rw[Xd (fun e=>by rw[e,hq] at b; simp at b)]; exact b
theorem ba.Sc {H:View} {L:List cw} (h:ba H L):∀ n:Nat,ba H (L ++ jb (List.replicate n (.emp 1,[])))
 | 0=>by simpa using h
 | n+1=>by
  have a:=(ba.Sc h n).emp (k:=1) (sz:=1)
  rw[List.replicate_succ,jb,XF]
  exact a.perm XT.symm
theorem R6 (g:ag) (hg:g.Ok) (b0:g.Small) (a:List aI) (ha:a.length≤300) (he:∀ s∈a,s.aG.length≤40∧∀ e∈s.aG,-1000≤e.sym∧e.sym≤1000) (b1:(aZ a).Nodup) (h1:1≤(aZ a).length) (H:View) :
  aw Tryz.prog 72 [.agg (ai g),bj a] H fun r H'=>∃ (W qn cM:Nat) (M:bQ (Int × Int)) (uw:V) (s e:Nat),r=.ptr W 0 0∧cX g a H' W qn cM M uw s e (aZ a) (List.replicate (aZ a).length 0) (List.replicate (aZ a).length (.emp 1,[])) []:=by
 refine aw.of mixed CY ?_
 have an:=(zm g hg b0).pure
 have hlen:=lY (fun s h=>(he s h).1)
 simp only[ai,encS] at an
 simp (disch:=omega)only[↓wr,seval,wq,zu,ai,encS]
 refine ay.pure an ?_
 simp (disch:=omega)only[↓wr,seval,wq,bj,bO]
 intro qn aq W hW
 have D:W≠qn:=fun e=>by rw[Xg e] at hW; simp at hW
 rw[Xd D] at hW
 have p:LM g a ((H.set qn (.map [] 0)).set W (.arr 10 [[.aE (g.af.map bW),.aE (g.ak.map fun s=>[gs s]),.aE (g.rules.map aP),gi g.start,bj a,bO (au g false),.mp qn,.emp 1,.emp 1,.emp 1]])) W qn (lf a 0):=by
  refine ⟨.emp 1,0,[],?_,by simp[View.set,Ne.symm D,bH],⟨by simp,by simp⟩,fun k x h=>by simp[lf] at h⟩
  exact ((ba.nil.emp (k:=1) (sz:=2)).fresh aq).new (n:=W) (by simp[View.set,D,hW]) 10 [[.aE (g.af.map bW),.aE (g.ak.map fun s=>[gs s]),.aE (g.rules.map aP),gi g.start,bj a,bO (au g false),.mp qn,.emp 1,.emp 1,.emp 1]]
 refine aU.up a.length (fun i T H'=>LM g a H' W qn (lf a i)∧T 5=.ptr W 0 0∧T 18=bj a∧T 19=gi a.length∧T 20=gi i) ⟨p,rfl,rfl,rfl,rfl⟩ ?_
 clear p hW aq D
 rintro i k T H' hk ⟨hI,t5,t18,t19,t20⟩
 simp (disch:=omega)only[↓wr,seval,wq,wc,t5,t18,t19,t20]
 apply ah.dec<;>intro hc
 rotate_left
 ·have b2:i=a.length:=by omega
  subst b2
  obtain ⟨uw,cM,M,hO,d,E,F⟩:=hI
  have w:=hO.is 0 rfl (by simp)
  have G:cH uw=some (aZ a).length:=by rw[hO.tail.head.len,Xj]
  have ca:(aZ a).length≤40 * a.length:=hlen a.length
  have bx:=hO.tail.head.cells
  have b3:=hO.tail.head.iO
  have I:qn≠W:=fun e=>by rw[e,w] at d; simp at d
  have b4:∀ q,H' q=.dead→W≠q:=fun q hq e=>by rw[e,hq] at w; simp at w
  simp (disch:=omega)only[↓wr,seval,wq,t5,w,G]
  refine ⟨⟨by omega,by unfold aB; omega,by unfold aB; omega⟩,fun h0=>by omega,fun _ s hs=>?_⟩
  have w1:=b4 s hs
  simp (disch:=omega)only[↓wr,seval,wq,t5,w,G,w1]
  refine ⟨⟨by omega,by unfold aB; omega,by unfold aB; omega⟩,fun h0=>by omega,fun _ e t=>?_⟩
  obtain ⟨n1,t⟩:=iW t
  obtain ⟨n2,t⟩:=iW t
  simp (disch:=omega)only[↓wr,seval,wq,t5,Ne.symm n1]
  have o1:=hO.new hs 1 (List.replicate (aZ a).length [V.val (.int .u32 0)])
  have o2:=(o1.perm (.swap _ _ _)).put (es':=[[.aE (g.af.map bW),.aE (g.ak.map fun s=>[gs s]),.aE (g.rules.map aP),gi g.start,bj a,bO (au g false),.mp qn,uw,.sl s 0 (aZ a).length 1,.emp 1]]) rfl rfl
  have o3:=o2.new (n:=e) (by simp only[View.set]; rw[Xd n1,Xd n2]; exact t) 1 (List.replicate (aZ a).length [.emp 1])
  have o4:=(o3.perm (.swap _ _ _)).put (es':=[[.aE (g.af.map bW),.aE (g.ak.map fun s=>[gs s]),.aE (g.rules.map aP),gi g.start,bj a,bO (au g false),.mp qn,uw,.sl s 0 (aZ a).length 1,.sl e 0 (aZ a).length 1]]) rfl rfl
  have o5:=(o4.perm (.cons _ (List.reverse_perm _).symm)).Sc (aZ a).length
  have e1:List.replicate (aZ a).length [V.val (.int .u32 0)]=dL (List.replicate (aZ a).length 0#32):=by simp
  have e2:List.replicate (aZ a).length [V.emp 1]=bm (List.replicate (aZ a).length ((V.emp 1,[]):V × List Nat)):=by simp[bm]
  simp only[Ym,List.reverse_cons,List.reverse_nil,Yq,XQ] at o5
  refine ⟨W,qn,cM,M,uw,s,e,rfl,?_,?_,E,F,by simp,by simp⟩
  ·rw[← e1,← e2,Yz]; exact o5
  ·simp only[View.set]
   rw[Xd I,Xd (fun h=>by rw[h,t] at d; simp at d),Xd I,Xd (fun h=>by rw[h,hs] at d; simp at d)]
   exact d
 have hx:a[i]?=some (a.getD i aM):=getD_some (by omega)
 have l:=xe a i
 have z:=Uo (a:=a) (n:=i+1) (m:=a.length) (by omega)
 rw[l] at z
 generalize a.getD i aM=x at hx l z
 obtain ⟨cc,b5⟩:=he x (Xi hx)
 simp (disch:=omega)only[↓wr,seval,wq,t5,t18,t19,t20,bj,Xf,hx,Xk,fZ]
 intro q1 ar
 rw[set_set]
 have U:=hI.fresh ar (o:=.arr 2 [[.aE (aT x.bc),.aE (fc x.aG)]])
 generalize H'.set q1 (.arr 2 [[.aE (aT x.bc),.aE (fc x.aG)]])=H1 at U ⊢
 refine aU.up x.aG.length (fun j T H'=>LM g a H' W qn (lf a i ++ jW i (x.aG.take j))∧T 5=.ptr W 0 0∧T 6=gi i∧T 18=bj a∧T 19=gi a.length∧T 20=gi i∧T 26=.aE (fc x.aG)∧T 27=gi x.aG.length∧T 28=gi j) ⟨by simpa [jW] using U,t5,rfl,t18,t19,t20,rfl,by show gi ((fc x.aG).length:Int)=_; simp[fc],rfl⟩ ?_
 clear t5 t18 t19 t20 hI U ar
 rintro j m T H2 a1 ⟨A,t5,t6,t18,t19,t20,t26,t27,t28⟩
 simp (disch:=omega)only[↓wr,seval,wq,wa,t5,t6,t26,t27,t28]
 apply ah.dec<;>intro b7
 rotate_left
 ·simp (disch:=omega)only[↓wr,seval,wq,t5,t18,t19,t20]
  rw[Xv (by omega),← l] at A
  exact aF hk (by omega) ⟨A,t5,t18,t19,rfl⟩
 have hy:x.aG[j]?=some (x.aG[j]'(by omega)):=Xc (by omega)
 have a6:=Xm (show j < x.aG.length by omega)
 generalize x.aG[j]'(by omega)=y at hy a6
 have cf:=b5 y a6
 have u:=RX (i:=i) hy
 simp (disch:=omega)only[↓wr,seval,wq,t5,t6,t18,t19,t20,t26,t27,t28,fc,Xf,hy,Xk,jq]
 intro q2 X
 apply ah.dec<;>intro B
 rotate_left
 ·simp (disch:=omega)only[↓wr,seval,wq,t5,t6,t18,t19,t20,t26,t27,t28]
  rw[set_set]
  rw[Xd B] at u
  exact aF a1 (by omega) ⟨by rw[u]; exact A.fresh X,t5,t6,t18,t19,t20,t26,t27,rfl⟩
 rw[Xg B] at u
 rw[set_set]
 have a7:=A.fresh X (o:=.arr 2 [[gi y.sym,gi y.to]])
 have C:(H2.set q2 (.arr 2 [[gi y.sym,gi y.to]])) q2=.arr 2 [[gi y.sym,gi y.to]]:=by simp[View.set]
 generalize H2.set q2 (.arr 2 [[gi y.sym,gi y.to]])=H3 at a7 C ⊢
 clear A X
 simp (disch:=omega)only[↓wr,seval,wq,t5,t6,C]
 intro Q J
 obtain ⟨uw,cM,M,hO,d,E,F⟩:=a7
 have K:=hO.is 0 rfl (by simp)
 have R:W≠Q:=fun e=>by rw[e,J] at K; simp at K
 have f:qn≠Q:=fun e=>by rw[e,J] at d; simp at d
 have G:cH uw=some (lf a i ++ jW i (x.aG.take j)).length:=by rw[hO.tail.head.len,Xj]
 have cg:=hlen i
 have a8:=KI i (x.aG.take j)
 rw[X0] at a8
 have bb:((i:Int),-1 - y.sym) ∉ lf a i ++ jW i (x.aG.take j):=by
  have h2:(lf a i ++ jW i (x.aG.take (j+1))).Nodup:=by
   have h3:jW i (x.aG.take (j+1)) <+: jW i x.aG:=by
    unfold jW
    refine List.IsPrefix.map _ (List.IsPrefix.filter _ (List.take_prefix _ _))
   obtain ⟨r,hr⟩:=h3
   have h4:=z.sublist.nodup b1
   rw[← hr,← XO,Yc] at h4
   exact h4.1
  rw[u,← XO,Yc] at h2
  exact fun h=>h2.2.2 _ h _ (by simp) rfl
 have bd:lf a i ++ jW i (x.aG.take (j+1))=(lf a i ++ jW i (x.aG.take j)) ++ [((i:Int),-1 - y.sym)]:=by rw[u,XO]
 have ch:(lf a i ++ jW i (x.aG.take j)).length≤20000:=by rw[XV]; omega
 clear u
 generalize lf a i ++ jW i (x.aG.take j)=ws at *
 simp (disch:=omega)only[↓wr,seval,wq,t5,t6,R,f,K,G]
 have b8:dA Tryz.prog 110=some (116,3):=by kernel_rfl
 refine V7 (kv:=eR) (kt:=116) (et:=3) (id:=qn) (c:=cM) (m:=M) (k:=((i:Int),-1 - y.sym)) (v:=gi (ws.length:Int)) b8 (AL xK) (by first | rfl | simp (disch:=omega)only[↓wr,seval,wq]) (by first | rfl | (simp (disch:=omega)only[↓wr,seval,wq]; rfl)) (by first | rfl | simp (disch:=omega)only[↓wr,seval,wq]) (by show (View.set (View.set H3 Q _) Q _) qn=_; simp only[View.set]; rw[Xd f,Xd f]; exact d) E fun Y bl=>?_
 rw[set_set]
 have L:=(hO.fresh J (o:=.arr 2 [[gi (i:Int),gi (-1 - y.sym)]])).wj (b:=qn) (c:=cM) (es:=bH eR M) (by simp only[View.set]; rw[Xd f]; exact d) (o:=.map (bH eR (bF ((i:Int),-1 - y.sym) (gi (ws.length:Int)) cM M)) Y)
 have N:((H3.set Q (.arr 2 [[gi (i:Int),gi (-1 - y.sym)]])).set qn (.map (bH eR (bF ((i:Int),-1 - y.sym) (gi (ws.length:Int)) cM M)) Y)) qn=.map (bH eR (bF ((i:Int),-1 - y.sym) (gi (ws.length:Int)) cM M)) Y:=by simp[View.set]
 have bn:((H3.set Q (.arr 2 [[gi (i:Int),gi (-1 - y.sym)]])).set qn (.map (bH eR (bF ((i:Int),-1 - y.sym) (gi (ws.length:Int)) cM M)) Y)) Q=.arr 2 [[gi (i:Int),gi (-1 - y.sym)]]:=by
  simp only[View.set]; rw[Xd (Ne.symm f)]; simp
 have S:=F.put bb cM
 generalize ((H3.set Q (.arr 2 [[gi (i:Int),gi (-1 - y.sym)]])).set qn (.map (bH eR (bF ((i:Int),-1 - y.sym) (gi (ws.length:Int)) cM M)) Y))=H5 at L N bn ⊢
 generalize bF ((i:Int),-1 - y.sym) (gi (ws.length:Int)) cM M=M5 at bl N S
 clear hO d E F K J C R f
 have b9:=L.is 0 rfl (by simp)
 simp (disch:=omega)only[↓wr,seval,wq,t5,b9,bn]
 intro q4 O
 simp (disch:=omega)only[↓wr,seval,wq,bT]
 refine cB ((L.perm (.swap _ _ _)).fresh O) (by simp[aO]) (by unfold aB; simp; omega) (by unfold aB; simp; omega) ?_
 intro bq H6 P l6
 have br:=P.is 1 rfl (by simp)
 have Z:=l6.map (((L.perm (.swap _ _ _)).fresh O).head) (b:=qn) (c:=Y) (es:=bH eR M5) (by simp only[View.set]; rw[Xd (fun e=>by rw[← e,N] at O; simp at O)]; exact N)
 have I:qn≠W:=fun e=>by rw[e,br] at Z; simp at Z
 simp (disch:=omega)only[↓wr,seval,wq,t5,t6,t18,t19,t20,t26,t27,t28,br,P.head.cells,P.head.iO]
 have bs:=(P.perm (.swap _ _ _)).put (es':=[[.aE (g.af.map bW),.aE (g.ak.map fun s=>[gs s]),.aE (g.rules.map aP),gi g.start,bj a,bO (au g false),.mp qn,bq,.emp 1,.emp 1]]) rfl rfl
 have e:ng ws ++ [[gi (i:Int),gi (-1 - y.sym)]]=ng (ws ++ [((i:Int),-1 - y.sym)]):=by simp
 rw[e] at bs
 refine aF a1 (by omega) ⟨?_,t5,t6,t18,t19,t20,t26,t27,rfl⟩
 rw[bd]
 exact ⟨bq,Y,M5,bs,by simp only[View.set]; rw[Xd I]; exact Z,bl,S⟩
def vq (ws:List (Int × Int)) (x:Int × Int):Nat:=(cG (fun y=>y == x) ws 0).toNat
theorem km {ws:List (Int × Int)} {x:Int × Int} (h:x∈ws):ws[vq ws x]?=some x:=by
 unfold vq
 rcases E6 (fun y=>y == x) ws 0 (Int.le_refl _) with h1 | ⟨k,y,h1,b,a,_⟩
 ·have:=FC _ ws 0 (Int.le_refl _) h1 x h
  simp at this
 ·rw[h1,show ((0:Int)+(k:Int)).toNat=k by omega,b]
  simp at a
  rw[a]
theorem HC {ws:List (Int × Int)} (a:ws.Nodup) {k:Nat} {x:Int × Int} (h:ws[k]?=some x):vq ws x=k:=by
 have h1:=km (Xi h)
 exact (List.getElem?_inj (Xq.1 h1).1 a).1 (h1.trans h.symm)
section
variable {g:ag} {a:List aI}
theorem du {p:Nat} {B:Int} : ((p:Int),B)∈aZ a↔0≤B∧dT a p (-1 - B):=by
 simp only[aZ,lf,List.mem_flatMap,XU,jW,Xw,XY,Xr,Xh,dT]
 constructor
 ·rintro ⟨i,hi,e,⟨h1,b⟩,c,d⟩
  have:i=p:=by omega
  subst this
  exact ⟨by omega,e,h1,by omega⟩
 ·rintro ⟨f,e,h1,b⟩
  exact ⟨p,(AO h1).1,e,⟨h1,by omega⟩,rfl,by omega⟩
theorem s7 {x:Int × Int} (h:x∈aZ a):∃ p:Nat,x=((p:Int),x.2):=by
 simp only[aZ,lf,List.mem_flatMap,XU,jW,Xw] at h
 obtain ⟨i,_,e,_,rfl⟩:=h
 exact ⟨i,rfl⟩
theorem PG {i:Nat} {l:List bX} (h:(l.map bX.sym).Nodup):(jW i l).Nodup:=by
 unfold jW
 have h1:((l.filter fun e=>decide (e.sym < 0)).map bX.sym).Nodup:=(List.Sublist.map _ List.filter_sublist).nodup h
 unfold List.Nodup at h1 ⊢
 rw[Zb] at h1 ⊢
 exact h1.imp fun a e=>a (by simp only[Xh] at e; omega)
theorem y8 (h:bZ g a):(aZ a).Nodup:=by
 have key:∀ n,n≤a.length→(lf a n).Nodup∧∀ x∈lf a n,x.1 < n:=by
  intro n
  induction n with
  | zero=>intro _; simp[lf]
  | succ n i =>
   intro l
   obtain ⟨h1,c⟩:=i (by omega)
   rw[xe]
   have hm:=Xi (getD_some (d:=aM) (show n < a.length by omega))
   have j:(jW n (a.getD n aM).aG).Nodup:=PG (by rw[h.x.all _ hm]; exact ve _ _ _)
   have f:∀ x∈jW n (a.getD n aM).aG,x.1=n:=fun x b=>by
    simp only[jW,Xw] at b
    obtain ⟨e,_,rfl⟩:=b; rfl
   refine ⟨Yc.2 ⟨h1,j,fun x b y k e=>?_⟩,fun x b=>?_⟩
   ·have:=c x b
    have:=f y k
    rw[e] at *
    omega
   ·rcases XE.1 b with b | b
    ·have:=c x b; push_cast; omega
    ·have:=f x b; push_cast; omega
 exact (key a.length (Xo _)).1
theorem qo (b:bZ g a):1≤(aZ a).length:=by
 have c:dT a 0 (-1 - g.start):=(b.lJ (by have:=b.pos; omega)).2 ⟨⟨-1,0⟩,(dt b.cF (b.bc (by have:=b.pos; omega))).2 (.base (by rw[b.e.first]; simp)),by
  unfold bK; rw[Xd (by simp[aK])]; simp[aK]⟩
 have:=du.2 ⟨b.cF.kA,c⟩
 exact List.length_pos_of_mem this
def pj (b:BV) (l:List bX):BV:=l.foldl (fun b e=>if 0≤e.sym then b ||| fG e.sym else b) b
def oN (g:ag) (x:Int × Int):BV:=if x.1=0∧x.2=g.start then fG g.af.length else 0
def tA (g:ag) (ws:List (Int × Int)) (q:Nat) (l:List bX):List Nat:=(l.filter fun e=>decide (e.sym < 0) && (au g false).getD (-1 - e.sym).toNat false).map fun e=>vq ws ((q:Int),-1 - e.sym)
def rV (g:ag) (a:List aI) (x:Int × Int):BV:=pj (oN g x) (a.getD (eu a x.1.toNat (-1 - x.2)) aM).aG
def nu (g:ag) (a:List aI) (x:Int × Int):List Nat:=tA g (aZ a) (eu a x.1.toNat (-1 - x.2)) (a.getD (eu a x.1.toNat (-1 - x.2)) aM).aG
theorem Fq {t:Nat} : ∀ (l:List bX) (b:BV),(pj b l).getLsbD t=true↔b.getLsbD t=true∨∃ e∈l,0≤e.sym∧(fG e.sym).getLsbD t=true
 | [],b=>by simp[pj]
 | e :: l,b=>by
  have c:=Fq (t:=t) l (if 0≤e.sym then b ||| fG e.sym else b)
  unfold pj at c ⊢
  rw[XC,c]
  by_cases h:0≤e.sym
  ·rw[Xg h,Ye,Yp]
   constructor
   ·rintro ((h1 | h1) | ⟨x,h1,a⟩)
    ·exact .inl h1
    ·exact .inr ⟨e,by simp,h,h1⟩
    ·exact .inr ⟨x,by simp[h1],a⟩
   ·rintro (h1 | ⟨x,h1,a⟩)
    ·exact .inl (.inl h1)
    ·rcases Xs.1 h1 with rfl | h1
     ·exact .inl (.inr a.2)
     ·exact .inr ⟨x,h1,a⟩
  ·rw[Xd h]
   constructor
   ·rintro (h1 | ⟨x,h1,a⟩)
    ·exact .inl h1
    ·exact .inr ⟨x,by simp[h1],a⟩
   ·rintro (h1 | ⟨x,h1,a⟩)
    ·exact .inl h1
    ·rcases Xs.1 h1 with rfl | h1
     ·exact absurd a.1 h
     ·exact .inr ⟨x,h1,a⟩
abbrev dw (a:List aI) (x:Nat):Int × Int:=(aZ a).getD x (0,0)
theorem BP (c:bZ g a) {p t:Nat} {B:Int} (he:dT a p (-1 - B)):(rV g a ((p:Int),B)).getLsbD t=true↔(p=0∧B=g.start∧t=g.af.length)∨(t < g.af.length∧dT a (eu a p (-1 - B)) t):=by
 have j:=c.cF.af
 obtain ⟨_,_,_,_,hq,_⟩:=c.eu he
 unfold rV
 simp only[Xy]
 rw[Fq]
 refine or_congr ?_ ?_
 ·unfold oN
  simp only
  split
  ·rename_i h
   rw[rf (by omega)]
   exact ⟨fun b=>⟨by omega,h.2,b⟩,fun b=>b.2.2⟩
  ·rename_i h
   exact ⟨fun b=>by simp at b,fun b=>absurd ⟨by omega,b.2.1⟩ h⟩
 ·constructor
  ·rintro ⟨e,h1,b,d⟩
   have hE:dT a (eu a p (-1 - B)) e.sym:=⟨e,h1,rfl⟩
   obtain ⟨y,f,i⟩:=(c.lJ hq).1 hE
   have l:=qC (nr c.cF (c.has hq f) i)
   obtain ⟨k,hk⟩:∃ k:Nat,e.sym=k:=⟨e.sym.toNat,by omega⟩
   rw[hk,rf (by omega)] at d
   subst d
   exact ⟨by omega,by rw[← hk]; exact hE⟩
  ·rintro ⟨h1,e,b,d⟩
   exact ⟨e,b,by omega,by rw[d,rf (by omega)]⟩
theorem BT (f:bZ g a) {p y:Nat} {B:Int} (_:dT a p (-1 - B)):y∈nu g a ((p:Int),B)↔∃ C:Int,0≤C∧(au g false).getD C.toNat false=true∧dT a (eu a p (-1 - B)) (-1 - C)∧(aZ a)[y]?=some ((eu a p (-1 - B):Int),C):=by
 unfold nu tA
 simp only[Xy,Xw,XY,Xl,Xr]
 constructor
 ·rintro ⟨e,⟨h1,c,b⟩,rfl⟩
  have hE:dT a (eu a p (-1 - B)) (-1 - (-1 - e.sym)):=⟨e,h1,by omega⟩
  exact ⟨-1 - e.sym,by omega,b,hE,km (du.2 ⟨by omega,hE⟩)⟩
 ·rintro ⟨C,h1,c,⟨e,b,d⟩,h⟩
  refine ⟨e,⟨b,by omega,by rw[d,show -1 - (-1 - C)=C by omega]; exact c⟩,?_⟩
  rw[d,show -1 - (-1 - C)=C by omega]
  exact HC (y8 f) h
theorem LO (c:bZ g a) {x:Nat} (d:x < (aZ a).length):∀ y∈nu g a (dw a x),y < (aZ a).length:=fun y b=>by
 have e:(aZ a)[x]?=some (dw a x):=getD_some d
 have hm:=Xi e
 obtain ⟨p,hp⟩:=s7 hm
 rw[hp] at hm b
 obtain ⟨_,_,_,_,h⟩:=(BT c (du.1 hm).2).1 b
 exact (Xq.1 h).1
theorem OP (e:bZ g a) {x t:Nat} {p:Nat} {B:Int} (c:(aZ a)[x]?=some ((p:Int),B)):lV (fun x=>nu g a (dw a x)) (fun x=>rV g a (dw a x)) x t↔oE g a p B t:=by
 have b:∀ {x:Nat} {y:Int × Int},(aZ a)[x]?=some y→dw a x=y:=fun {x y} h=>by
  rw[dw,Xb,h]; rfl
 constructor
 ·rintro ⟨w,hr,hw⟩
  induction hr generalizing p B with
  | refl =>
   have he:=(du.1 (Xi c)).2
   simp only at hw
   rw[b c] at hw
   rcases (BP e he).1 hw with ⟨rfl,rfl,rfl⟩ | ⟨h1,d⟩
   ·exact .fin
   ·exact .term h1 d
  | @step x y w j hr f =>
   have he:=(du.1 (Xi c)).2
   rw[b c] at j
   obtain ⟨C,h1,d,i,k⟩:=(BT e he).1 j
   exact .null h1 i d (f k hw)
 ·intro h
  induction h generalizing x with
  | fin =>
   have he:=(du.1 (Xi c)).2
   exact ⟨x,.refl,by simp only; rw[b c]; exact (BP e he).2 (.inl ⟨rfl,rfl,rfl⟩)⟩
  | @term p B t h1 d =>
   have he:=(du.1 (Xi c)).2
   exact ⟨x,.refl,by simp only; rw[b c]; exact (BP e he).2 (.inr ⟨h1,d⟩)⟩
  | @null p B C t h1 d i k f =>
   have he:=(du.1 (Xi c)).2
   have hm:=km (du.2 ⟨h1,d⟩)
   obtain ⟨w,l,k2⟩:=f hm
   exact ⟨w,.step (by rw[b c]; exact (BT e he).2 ⟨C,h1,i,d,hm⟩) l,k2⟩
end
def iE (l:List UInt8):Value:=.string ⟨l.toArray⟩
theorem IV {a b:List UInt8} : ((⟨a.toArray⟩:ByteArray) == ⟨b.toArray⟩)=(a == b):=by
 show (a.toArray == b.toArray)=_
 simp
theorem Ik {P:Program} {kt:TypeId} (h:P.underlying kt=some .string):B8 P kt iE where
 ty:=⟨_,h,fun a b=>by simp only[Instr.sameNow,iE,IV],fun a e=>wN h trivial e 9999 _⟩
 bits:=fun a b c=>by
  have:a=b:=by simpa using c
  subst this
  show ((⟨a.toArray⟩:ByteArray) == ⟨a.toArray⟩)=true
  rw[IV]; simp
def qu (l:List aD):List Int:=l.flatMap fun x=>[x.ax+1,x.dot]
theorem Rv (l:List aD):(qu l).length=2 * l.length:=by
 induction l with
 | nil=>rfl
 | cons x l a=>simp only[qu,List.flatMap_cons,XV,Xt,XN] at a ⊢; omega
theorem Da:∀ l:List aD,lI ((qu l).map fun n=>[gy n])=some (gv l)
 | []=>rfl
 | x :: l=>by
  have a:=Da l
  simp only[qu,gv,List.flatMap_cons,XQ,Yq,XF,lI] at a ⊢
  rw[a]; rfl
theorem SS {x:Int} (h1:0≤x) (c:x < 256):IntKind.wrap .u8 x=x:=by
 unfold IntKind.wrap
 have a:(2:Int) ^ IntKind.u8.bits=256:=by rfl
 have b:IntKind.u8.signed=false:=by rfl
 simp only[a,b,YS,Xz,if_false]
 omega
theorem UC {P:Program} {T:Env} {H:View} {K:V→View→Prop} {w:cD (T,H,K)} {t e d ty:TypeId} {x:Operand} {u:V} {xs:List (List V)} {rd:List Nat} {l:List UInt8} {k:Nat} (hu:P.underlying t=some (.slice e)) (he:P.underlying e=some (.int .u8)) (hd:P.underlying d=some .string)
  (a:ev T x=u) (hl:bI H u=some (xs,rd)) (b:cH u=some k) (c:lI xs=some l) (hk:K (.val (iE l)) H):jH P (.convert t d x) ty T H K w:=by
 intro n _
 have f:ll P t d=true:=by simp[ll,hu]
 refine ⟨.val (iE l),.none,rd,?_,hk⟩
 simp only[sI,cp,oper]
 rw[Xg f,a]
 simp[nA,hu,he,hd,hl,b,c,iE]
def vE:SC :=
 ae [ab [aV 15 .lss 14 13],bY 15 (.exit 0),.block 1 (ae [ab [aQ 16 2 12 14,bg 17 2 16,((some 7),.op (.alloc [(.val (.int .i64 0)),(.val (.int .i64 0))])),bU 2 7 17],ab [bg 19 4 2,bg 20 2 7,bz 21 50 [19,20],aa 18 21,fI 22 0 18,fI 23 1 18,aa 8 22,aa 9 23],ab [aa 24 9],bf 24 (ae [ab [bg 25 4 2,aa 26 8,bz 27 111 [25,26],aa 10 27],ab [aa 28 5,aa 29 10,aa 30 5,aa 31 10,((some 32),.op (.old (.lookup 98 (.tmp 30) (.tmp 31) false) 27)),ao 33 0 7,aj 34 33,ao 35 1 7,aj 36 35,aH 37 .add 36 1,((some 38),.op (.build [(.val (.int .i64 0)),(.val (.int .i64 0))] [(0,1,(.tmp 34)),(1,1,(.tmp 37))])),((some 39),.op (.bV 1 2 [(.val (.int .i64 0)),(.val (.int .i64 0))] [(0,(.tmp 38))])),gY 40 2 16 32 39,(none,.op (.old (.mapUpdate 98 (.tmp 28) (.tmp 29) (.tmp 40)) 0))]])]),ab [aH 41 .add 14 1,aa 14 41]]
def zF:SF:=⟨ae [ab [cI 2 0,((some 4),.op (.fa (.val (.val (.map none)))))],ab [((some 11),.op (.pD)),aa 5 11],ae [ab [aa 12 1,aN 13 12,aS 14 0],b6 0 vE],ab [aa 42 5,aa 4 42],.ret],
 [.tmp 4],43⟩
theorem C4:aR Tryz.prog 63 [2]=some zF:=by kernel_rfl
def Am:SC :=
 ae [ab [aV 9 .lss 8 7],bY 9 (.exit 0),.block 1 (ae [ab [aQ 10 2 6 8,bg 11 2 10,((some 5),.op (.alloc [(.val (.int .i64 0)),(.val (.int .i64 0))])),bU 2 5 11],ab [aa 12 3,ao 13 0 5,aj 14 13,aH 15 .add 14 1,((some 16),.op (.conv .u8 (.tmp 15))),ao 17 1 5,aj 18 17,((some 19),.op (.conv .u8 (.tmp 18))),((some 20),.op (.bV 2 1 [(.val (.int .u8 0))] [(0,(.tmp 16)),(1,(.tmp 19))])),gY 21 1 1 12 20,aa 3 21]]),ab [aH 22 .add 8 1,aa 8 22]]
def CS:SF:=⟨ae [.region false [⟨none,[((some 2),.op (.fa (.val (.val (.string ⟨#[]⟩)))))]⟩],ab [df 3 1],ae [ab [aa 6 0,aN 7 6,aS 8 0],b6 0 Am],ab [aa 23 3,((some 24),.op (.old (.convert 91 9 (.tmp 23)) 9)),aa 2 24],.ret],
 [.tmp 2],25⟩
theorem GJ:aR Tryz.prog 62 []=some CS:=by kernel_rfl
theorem IQ (g:ag) (J:g.dD) (l:List aD) (hl:∀ x∈l,cU g x) (B:l.length≤10000) (u:V) (H:View) (K:aX H u 2 (aT l)):aw Tryz.prog 62 [u] H fun r H'=>r=.val (iE (gv l))∧∀ id,H id≠.dead→H' id=H id:=by
 refine aw.of mixed GJ ?_
 have hlen:cH u=some l.length:=by rw[K.len,bM]
 have L:=J.rules
 simp (disch:=omega)only[↓wr,seval,wq,CS,hlen]
 refine aU.up l.length (fun i T H'=>∃ b:V,aX H' b 1 ((qu (l.take i)).map fun n=>[gy n])∧dr H H' b∧T 3=b∧T 6=u∧T 7=gi l.length∧T 8=gi i) ⟨.emp 1,.nil,.emp,rfl,rfl,rfl,rfl⟩ ?_
 rintro i k T H' hk ⟨b,v,w,t3,t6,t7,t8⟩
 simp (disch:=omega)only[↓wr,seval,wq,Am,t3,t6,t7,t8]
 apply ah.dec<;>intro M
 ·have C:l[i]?=some (l[i]'(by omega)):=Xc (by omega)
  have f:=hl _ (Xm (show i < l.length by omega))
  have z:l.take (i+1)=l.take i ++ [l[i]'(by omega)]:=by rw[XH,C]; rfl
  generalize l[i]'(by omega)=x at C f z
  have N:=gP J f.1
  have O:=f.1
  have P:=f.2
  obtain ⟨id,hu,a⟩:=K.sl (by rw[bM]; omega)
  have A:H' id=.arr 2 (aT l):=by rw[(w id (by rw[a]; simp)).1,a]
  rw[bM] at hu
  subst hu
  have D:=Rv (l.take i)
  rw[X0] at D
  simp (disch:=omega)only[↓wr,seval,wq,t3,t6,t7,t8,A,rR C,SS (x:=x.ax+1) (by omega) (by omega),SS (x:=x.dot) (by omega) (by omega)]
  refine ⟨by omega,by rw[bM]; omega,?_⟩
  intro q hq o E
  obtain ⟨F,p⟩:=cO E (by simp)
  rw[Xd F] at p
  have G:∀ j,H j≠.dead→j≠q∧j≠o:=fun j c=>by
   have h1:=(w j c).1
   exact ⟨fun e=>c (by rw[e] at h1 ⊢; rw[← h1,hq]),fun e=>c (by rw[e] at h1 ⊢; rw[← h1,p])⟩
  have I:∀ a0 h a2,aX (((H'.set q a0).set q h).set o a2) b 1 ((qu (l.take i)).map fun n=>[gy n]):=fun a0 h a2=>v.keep fun id a=>by
   have h1:=(v.live a).1
   have s:id≠q:=by rintro rfl; rw[hq] at h1; simp at h1
   have t:id≠o:=by rintro rfl; rw[p] at h1; simp at h1
   simp[View.set,s,t]
  have m:∀ a0 h a2 j,H j≠.dead→(((H'.set q a0).set q h).set o a2) j=H j:=fun a0 h a2 j c=>by
   obtain ⟨s,t⟩:=G j c
   simp[View.set,s,t,(w j c).1]
  have d:∀ (a0 h:c6) (s t:List V),bI (((H'.set q a0).set q h).set o (.arr 1 [s,t])) (.sl o 0 2 1)=some ([s,t],[o]):=fun a0 h s t=>by simp[bI,View.set]
  simp (disch:=omega)only[↓wr,seval,wq,d,t3]
  refine iQ (I _ _ _) (by simp[aO]) (by unfold aB; simp; omega) (by unfold aB; simp; omega) ?_
  intro Q W R S
  simp (disch:=omega)only[↓wr,seval,wq,t6,t7,t8]
  refine aF hk (by omega) ⟨Q,?_,fun j c=>?_,rfl,t6,t7,rfl⟩
  ·have:(qu (l.take (i+1))).map (fun n=>[gy n])=(qu (l.take i)).map (fun n=>[gy n]) ++ [[gy (x.ax+1)],[gy x.dot]]:=by
    rw[z]; simp[qu]
   rw[this]; exact R
  ·obtain ⟨U,k2⟩:=S j (by rw[m _ _ _ j c]; exact c) (w j c).2
   exact ⟨by rw[U,m _ _ _ j c],k2⟩
 ·rw[Xv (by omega)] at v
  simp (disch:=omega)only[↓wr,seval,wq,t3]
  have d:∃ rd,bI H' b=some ((qu l).map (fun n=>[gy n]),rd):=by
   rcases v with ⟨e,k,rfl⟩ | ⟨n,rfl,B⟩
   ·exact ⟨[],by rw[e]; rfl⟩
   ·rcases hq:(qu l).map (fun n=>[gy n]) with _ | ⟨y,ys⟩
    ·exact ⟨[],by simp[bI]⟩
    ·rw[hq] at B
     exact ⟨[n],by
      have:=sB (H:=H') n 0 ys.length 1 1 (y :: ys) B (by simp)
      rw[Xt,this]; simp⟩
  obtain ⟨rd,d⟩:=d
  refine UC (u:=b) (xs:=(qu l).map fun n=>[gy n]) (rd:=rd) (k:=((qu l).map fun n=>[gy n]).length) (l:=gv l) Tryz.underlying91 Tryz.underlying5 Tryz.underlying9 (by simp (disch:=omega)only[↓wr,seval,wq]; exact t3) d v.len (Da l) ?_
  simp (disch:=omega)only[↓wr,seval,wq]
  exact fun id a=>(w id a).1
theorem zG (g:ag) (p:List aD) (y:aD) (s:Int):bk g (p ++ [y]) s=if bK g y=(s,true) then bk g p s ++ [⟨y.ax,y.dot+1⟩] else bk g p s:=by
 unfold bk
 rw[YG,XD]
 split
 ·rename_i h; simp[h]
 ·rename_i h; simp[h]
def jm (g:ag) (p:List aD) (A:bQ Int):List cw:=A.map fun x=>(x.2.1,2,aT (bk g p (aY g x.1.toNat)))
structure uv (g:ag) (p:List aD) (H0 H:View) (q:Nat) (A:bQ Int):Prop where
 mp:∃ c,H q=.map (cx (Value.int .i64) A) c
 nd:(A.map (·.1)).Nodup
 own:ba H (jm g p A)
 ne:∀ x∈A,0≤x.1∧bk g p (aY g x.1.toNat)≠[]
 all:∀ k:Nat,bk g p (aY g k)≠[]→((k:Nat):Int)∈A.map (·.1)
 old:∀ id,H0 id≠.dead→H id=H0 id
 q0:H0 q=.dead
 new:∀ x∈A,∀ id,owner x.2.1=some id→H0 id=.dead
theorem getM_none {A:bQ Int} {k:Int} : getM A k=none↔k ∉ A.map (·.1):=by
 induction A with
 | nil=>simp[getM]
 | cons x A a =>
  unfold getM at a ⊢
  rw[YX]
  by_cases h:k=x.1
  ·simp[h]
  ·simp only[beq_eq_false_iff_ne.2 h,XF,Xs,not_or]
   rw[a]
   simp[h]
theorem w8 {A:bQ Int} {k:Int} {v:V} (h:getM A k=some v):∃ a d b,A=a ++ (k,v,b) :: d∧k ∉ a.map (·.1)∧∀ v' c,bF k v' c A=a ++ (k,v',b) :: d:=by
 induction A with
 | nil=>simp[getM] at h
 | cons x A f =>
  unfold getM at h f
  rw[YX] at h
  by_cases e:k=x.1
  ·simp only[e,YQ,Xk,Xe] at h
   refine ⟨[],A,x.2.2,by rw[e,← h]; rfl,by simp,fun v' c=>?_⟩
   rw[bF,e,YQ,Xg rfl]; rfl
  ·rw[beq_eq_false_iff_ne.2 e] at h
   obtain ⟨a,d,b,rfl,g,i⟩:=f h
   refine ⟨x :: a,d,b,rfl,by simp only[XF,Xs,not_or]; exact ⟨e,g⟩,fun v' c=>?_⟩
   rw[bF,beq_eq_false_iff_ne.2 e,i]; rfl
theorem RT {A:bQ Int} {k:Int} (h:k ∉ A.map (·.1)) (v:V) (c:Nat):bF k v c A=A ++ [(k,v,c)]:=by
 induction A with
 | nil=>rfl
 | cons x A a =>
  simp only[XF,Xs,not_or] at h
  rw[bF,beq_eq_false_iff_ne.2 h.1,a h.2]; rfl
theorem uv.skip {g:ag} {p:List aD} {H0 H:View} {q:Nat} {A:bQ Int} (h:uv g p H0 H q A) {y:aD} (a:(bK g y).2=false):uv g (p ++ [y]) H0 H q A:=by
 have e:∀ s,bk g (p ++ [y]) s=bk g p s:=fun s=>by rw[zG,Xd (fun h=>by rw[h] at a; simp at a)]
 have b:jm g (p ++ [y]) A=jm g p A:=by simp only[jm,e]
 exact ⟨h.mp,h.nd,by rw[b]; exact h.own,fun x c=>by rw[e]; exact h.ne x c,fun k hk=>by rw[e] at hk; exact h.all k hk,h.old,h.q0,h.new⟩
theorem uv.val {g:ag} {p:List aD} {H0 H:View} {q:Nat} {A:bQ Int} (h:uv g p H0 H q A) (r:Nat):aX H ((getM A r).getD (.emp 1)) 2 (aT (bk g p (aY g r))):=by
 cases c:getM A r with
 | none =>
  have d:=getM_none.1 c
  have:bk g p (aY g r)=[]:=Yj fun a=>d (h.all r a)
  rw[this]; exact .nil
 | some v =>
  obtain ⟨e,f,b,rfl,_,_⟩:=w8 c
  have:=h.own.1 (v,2,aT (bk g p (aY g r))) (by simp[jm])
  exact this
theorem uv.put {g:ag} {p:List aD} {H0 H:View} {q:Nat} {A:bQ Int} (h:uv g p H0 H q A) {y:aD} {r:Nat} (T:bK g y=(aY g r,true)) {H1:View} {v':V} (U:aX H1 v' 2 (aT (bk g p (aY g r) ++ [⟨y.ax,y.dot+1⟩]))) (w:Left H H1 ((getM A r).getD (.emp 1)) v') (c B:Nat) :
  uv g (p ++ [y]) H0 (H1.set q (.map (cx (Value.int .i64) (bF (r:Int) v' c A)) B)) q (bF (r:Int) v' c A):=by
 obtain ⟨c0,hq⟩:=h.mp
 have hr:bk g (p ++ [y]) (aY g r)=bk g p (aY g r) ++ [⟨y.ax,y.dot+1⟩]:=by rw[zG,Xg T]
 have i:∀ x:Int × V × Nat,0≤x.1→x.1≠r→bk g (p ++ [y]) (aY g x.1.toNat)=bk g p (aY g x.1.toNat):=fun x O d=>by
  rw[zG,Xd]
  intro e
  rw[T] at e
  simp only[Xh,and_true] at e
  have h1:=xQ g r
  rw[e,xQ] at h1
  omega
 have C:owner ((getM A r).getD (.emp 1))≠some q:=fun e=>by
  have:=((h.val r).live e).1
  rw[hq] at this; simp at this
 have D:H1 q≠.dead∧owner v'≠some q:=by
  obtain ⟨Y,k2⟩:=w q (by rw[hq]; simp) C
  exact ⟨by rw[Y,hq]; simp,k2⟩
 have hold:∀ id,H0 id≠.dead→id≠q∧owner ((getM A r).getD (.emp 1))≠some id:=fun id f=>by
  refine ⟨fun e=>f (by rw[e]; exact h.q0),fun e=>?_⟩
  cases t:getM A r with
  | none=>rw[t] at e; simp[owner] at e
  | some v =>
   rw[t] at e
   obtain ⟨s,l,b,rfl,_,_⟩:=w8 t
   exact f (h.new (r,v,b) (by simp) id e)
 have m:∀ id,H0 id≠.dead→(H1.set q (.map (cx (Value.int .i64) (bF (r:Int) v' c A)) B)) id=H0 id:=fun id f=>by
  simp only[View.set]
  rw[Xd (hold id f).1,(w id (by rw[h.old id f]; exact f) (hold id f).2).1,h.old id f]
 have E:∀ id,owner v'=some id→H0 id=.dead:=fun id e=>YI fun f=>(w id (by rw[h.old id f]; exact f) (hold id f).2).2 e
 have u:∀ {L:List cw},ba H1 L→(∀ x∈L,owner x.1≠some q)→ba (H1.set q (.map (cx (Value.int .i64) (bF (r:Int) v' c A)) B)) L:=fun W d=>⟨fun x F=>(W.1 x F).other (d x F),W.2⟩
 have j:∀ x∈A,owner x.2.1≠some q:=fun x d=>h.own.AF hq _ (Xw.2 ⟨x,d,rfl⟩)
 cases t:getM A r with
 | none =>
  have N:=getM_none.1 t
  rw[t] at w
  rw[RT N] at *
  have P:jm g (p ++ [y]) (A ++ [((r:Int),v',c)])=jm g p A ++ [(v',2,aT (bk g p (aY g r) ++ [⟨y.ax,y.dot+1⟩]))]:=by
   simp only[jm,XD,XF,YK,Xy,hr]
   congr 1
   refine Zd fun x d=>?_
   rw[i x (h.ne x d).1 (fun e=>N (Xw.2 ⟨x,d,e⟩))]
  refine ⟨⟨B,by simp[View.set]⟩,?_,?_,fun x d=>?_,fun k hk=>?_,m,h.q0,fun x d id e=>?_⟩
  ·rw[XD,Yc]
   refine ⟨h.nd,by simp,fun a Z b X e=>?_⟩
   simp at X; subst X; subst e; exact N Z
  ·rw[P]
   have Q:ba H1 ((v',2,aT (bk g p (aY g r) ++ [⟨y.ax,y.dot+1⟩])) :: jm g p A):=(h.own.emp (k:=1) (sz:=2)).left (by simpa using U) w
   refine u (Q.perm (List.perm_append_comm (l₁:=[_]))) fun x d=>?_
   rcases XE.1 d with d | d
   ·obtain ⟨z,G,rfl⟩:=Xw.1 d
    exact j z G
   ·simp at d; subst d; exact D.2
  ·rcases XE.1 d with d | d
   ·rw[i x (h.ne x d).1 (fun e=>N (Xw.2 ⟨x,d,e⟩))]; exact h.ne x d
   ·simp at d; subst d; simp[hr]
  ·rw[XD,XE]
   by_cases e:k=r
   ·right; simp[e]
   ·left
    refine h.all k ?_
    have:=i ((k:Int),.any,0) (by simp) (by simp only; omega)
    simp only[Xy] at this
    rw[← this]; exact hk
  ·rcases XE.1 d with d | d
   ·exact h.new x d id e
   ·simp at d; subst d; exact E id e
 | some v =>
  obtain ⟨s,l,b,rfl,R,I⟩:=w8 t
  rw[t] at w
  rw[I] at *
  have J:=h.nd
  rw[XD,XF,Yc] at J
  have S:(r:Int) ∉ l.map (·.1):=(X6.1 J.2.1).1
  have K:∀ x∈s,x.1≠r:=fun x d e=>R (Xw.2 ⟨x,d,e⟩)
  have M:∀ x∈l,x.1≠r:=fun x d e=>S (Xw.2 ⟨x,d,e⟩)
  have n:∀ x∈s,x∈s ++ ((r:Int),v,b) :: l:=fun x d=>YR _ d
  have o:∀ x∈l,x∈s ++ ((r:Int),v,b) :: l:=fun x d=>YT _ (XJ _ d)
  have P:jm g (p ++ [y]) (s ++ ((r:Int),v',b) :: l)=jm g p s ++ (v',2,aT (bk g p (aY g r) ++ [⟨y.ax,y.dot+1⟩])) :: jm g p l:=by
   simp only[jm,XD,XF,Xy,hr]
   congr 1
   ·refine Zd fun x d=>?_
    rw[i x (h.ne x (n x d)).1 (K x d)]
   ·congr 1
    refine Zd fun x d=>?_
    rw[i x (h.ne x (o x d)).1 (M x d)]
  have e0:jm g p (s ++ ((r:Int),v,b) :: l)=jm g p s ++ (v,2,aT (bk g p (aY g r))) :: jm g p l:=by
   simp only[jm,XD,XF,Xy]
  refine ⟨⟨B,by simp[View.set]⟩,by simpa using h.nd,?_,fun x d=>?_,fun k hk=>?_,m,h.q0,fun x d id e=>?_⟩
  ·rw[P]
   have O:=h.own
   rw[e0] at O
   have Q:ba H1 ((v',2,aT (bk g p (aY g r) ++ [⟨y.ax,y.dot+1⟩])) :: (jm g p s ++ jm g p l)):=(O.perm XT).left U w
   refine u (Q.perm XT.symm) fun x d=>?_
   rcases XE.1 d with d | d
   ·obtain ⟨z,G,rfl⟩:=Xw.1 d
    exact j z (n z G)
   ·rcases Xs.1 d with rfl | d
    ·exact D.2
    ·obtain ⟨z,G,rfl⟩:=Xw.1 d
     exact j z (o z G)
  ·rcases XE.1 d with d | d
   ·rw[i x (h.ne x (n x d)).1 (K x d)]; exact h.ne x (n x d)
   ·rcases Xs.1 d with rfl | d
    ·simp[hr]
    ·rw[i x (h.ne x (o x d)).1 (M x d)]; exact h.ne x (o x d)
  ·by_cases e:k=r
   ·subst e; simp
   ·have:=i ((k:Int),.any,0) (by simp) (by simp only; omega)
    simp only[Xy] at this
    rw[this] at hk
    have:=h.all k hk
    simpa using this
  ·rcases XE.1 d with d | d
   ·exact h.new x (n x d) id e
   ·rcases Xs.1 d with rfl | d
    ·exact E id e
    ·exact h.new x (o x d) id e
theorem uv.fresh {g:ag} {p:List aD} {H0 H:View} {q:Nat} {A:bQ Int} (h:uv g p H0 H q A) {n:Nat} (b:H n=.dead) (o:c6):uv g p H0 (H.set n o) q A:=by
 obtain ⟨c,hq⟩:=h.mp
 have d:q≠n:=by rintro rfl; rw[b] at hq; simp at hq
 refine ⟨⟨c,by simp[View.set,d,hq]⟩,h.nd,h.own.fresh b,h.ne,h.all,fun id a=>?_,h.q0,h.new⟩
 have e:id≠n:=by rintro rfl; rw[h.old id a] at b; exact a b
 simp[View.set,e,h.old id a]
theorem RD (g:ag) (w:g.dD) (l:List aD) (hl:∀ x∈l,cU g x) (L:l.length≤10000) (u:V) (H:View) (Z:aX H u 2 (aT l)):aw Tryz.prog 63 [.agg (ai g),u] H fun r H'=>∃ q A,r=.mp q∧uv g l H H' q A:=by
 refine aw.of mixed C4 ?_
 have hlen:cH u=some l.length:=by rw[Z.len,bM]
 have hT:=w.af
 have hN:=w.ak
 simp (disch:=omega)only[↓wr,seval,wq,zF,ai,encS,hlen]
 intro q hq
 have M:uv g [] H (H.set q (.map [] 0)) q []:=⟨⟨0,by simp[View.set,cx]⟩,by simp,⟨by simp[jm],by simp[jm]⟩,by simp,fun k hk=>absurd rfl hk,fun id j=>by
  have:id≠q:=by rintro rfl; exact j hq
  simp[View.set,this],hq,by simp⟩
 generalize H.set q (.map [] 0)=H1 at M
 try simp (disch:=omega)only[↓wr,seval,wq]
 refine aU.up l.length (fun i T H'=>∃ A,uv g (l.take i) H H' q A∧T 2=.aJ (ai g) 0∧T 5=.mp q∧T 12=u∧T 13=gi l.length∧T 14=gi i) ⟨[],M,rfl,rfl,rfl,rfl,rfl⟩ ?_
 clear M hq
 rintro i k T H' hk ⟨A,D,t2,t5,t12,t13,t14⟩
 simp (disch:=omega)only[↓wr,seval,wq,vE,t2,t5,t12,t13,t14]
 apply ah.dec<;>intro hc
 ·have N:l[i]?=some (l[i]'(by omega)):=Xc (by omega)
  have a:=hl _ (Xm (show i < l.length by omega))
  have B:l.take (i+1)=l.take i ++ [l[i]'(by omega)]:=by rw[XH,N]; rfl
  generalize l[i]'(by omega)=x at N a B
  have h1:=Iy g w x a
  cases b:bK g x with
  | mk s O =>
  have P:=xj w a b
  rw[b] at h1
  have aq:=gP w a.1
  have ar:=a.2
  obtain ⟨id,hu,j⟩:=Z.sl (by rw[bM]; omega)
  have p:H' id=.arr 2 (aT l):=by rw[D.old id (by rw[j]; simp),j]
  rw[bM] at hu
  subst hu
  simp only[ai,encS,cr] at h1
  simp (disch:=omega)only[↓wr,seval,wq,t2,t5,t12,t13,t14,p,rR N]
  refine ⟨by omega,by rw[bM]; omega,?_⟩
  intro E F
  rw[set_set]
  have d:(H'.set E (.arr 2 [[gi x.ax,gi x.dot]])) E=.arr 2 [[gi x.ax,gi x.dot]]:=by simp[View.set]
  have f:=D.fresh F (.arr 2 [[gi x.ax,gi x.dot]])
  generalize H'.set E (.arr 2 [[gi x.ax,gi x.dot]])=Q at d f
  clear D F p
  try simp (disch:=omega)only[↓wr,seval,wq,t2,t5,d,ai,encS]
  refine ay.pure h1 ?_
  cases O with
  | false =>
   simp (disch:=omega)only[↓wr,seval,wq,t2,t5,t12,t13,t14]
   exact aF hk (by omega) ⟨A,by rw[B]; exact f.skip (by rw[b]),t2,t5,t12,t13,rfl⟩
  | true =>
  have hh:=nr w a b
  obtain ⟨r1,r2⟩:=qC hh
  obtain ⟨r3,r4⟩:=HB r1
  obtain ⟨r,hr⟩:∃ r:Nat,kb g s=r:=⟨(kb g s).toNat,by omega⟩
  rw[hr,Xy] at r4
  have R:=QR g w s P
  rw[hr] at R
  simp only[ai,encS] at R
  simp (disch:=omega)only[↓wr,seval,wq,t2,t5,ai,encS]
  refine ay.pure R ?_
  obtain ⟨c,S⟩:=f.mp
  simp (disch:=omega)only[↓wr,seval,wq,t5]
  refine Ar (kt:=3) (et:=27) (z:=.emp 1) (by kernel_rfl) (by kernel_rfl) (lq .i64 Tryz.underlying3) (id:=q) (c:=c) (m:=A) (k:=(r:Int)) (by simp (disch:=omega)only[↓wr,seval,wq]) (by simp (disch:=omega)only[↓wr,seval,wq]) S ?_
  have a1:=f.val r
  have an:∀ n o,Q n=.dead→(Q.set n o) E=.arr 2 [[gi x.ax,gi x.dot]]:=fun n o L=>by
   have:E≠n:=by rintro rfl; rw[d] at L; simp at L
   simp[View.set,this,d]
  try simp (disch:=omega)only[↓wr,seval,wq,d]
  intro U W
  have C:=f.fresh W (.arr 2 [[gi x.ax,gi (x.dot+1)]])
  have t:=C.val r
  have X:bI (Q.set U (.arr 2 [[gi x.ax,gi (x.dot+1)]])) (.sl U 0 1 2)=some ([[gi x.ax,gi (x.dot+1)]],[U]):=by simp[bI,View.set]
  simp (disch:=omega)only[↓wr,seval,wq,X]
  have Y:=te (g:=g) (l:=l.take i) (s:=aY g r)
  rw[X0] at Y
  refine iQ t (by simp[aO]) (by unfold aB; rw[bM]; simp; omega) (by unfold aB; rw[bM]; simp; omega) ?_
  intro v' H6 o6 l6
  obtain ⟨K,h⟩:=C.mp
  have G:owner ((getM A (r:Int)).getD (.emp 1))≠some q:=fun e=>by
   have:=(t.live e).1
   rw[h] at this; simp at this
  have I:H6 q=.map (cx (Value.int .i64) A) K:=by
   rw[(l6 q (by rw[h]; simp) G).1,h]
  simp (disch:=omega)only[↓wr,seval,wq,t5]
  refine vQ (kt:=3) (et:=27) (by kernel_rfl) (lq .i64 Tryz.underlying3) (id:=q) (c:=K) (m:=A) (k:=(r:Int)) (v:=v') (by simp (disch:=omega)only[↓wr,seval,wq]) (by simp (disch:=omega)only[↓wr,seval,wq]) (by simp (disch:=omega)only[↓wr,seval,wq]) I ?_
  intro c'
  simp (disch:=omega)only[↓wr,seval,wq,t2,t5,t12,t13,t14]
  have J:=C.put (y:=x) (r:=r) (by rw[b,r4]) (H1:=H6) (v':=v') (by
   have e:aT (bk g (l.take i) (aY g r) ++ [⟨x.ax,x.dot+1⟩])=aT (bk g (l.take i) (aY g r)) ++ [[gi x.ax,gi (x.dot+1)]]:=by simp[aT,cr]
   rw[e]; exact o6) l6 K c'
  exact aF hk (by omega) ⟨bF (r:Int) v' K A,by rw[B]; exact J,t2,t5,t12,t13,rfl⟩
 ·rw[Xv (by omega)] at D
  simp (disch:=omega)only[↓wr,seval,wq,t5]
  exact ⟨q,A,rfl,D⟩
end Gv
