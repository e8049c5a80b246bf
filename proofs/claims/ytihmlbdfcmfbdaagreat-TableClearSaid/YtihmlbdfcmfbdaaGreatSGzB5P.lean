/-
  Part 16 of the proof: what the machine does and what the functions answer.
  Conditions: those that each lemma names.
-/
import Derived.Test.YtihmlbdfcmfbdaaGreatSGzB5O
set_option linter.unusedSimpArgs false
set_option linter.unusedVariables false
set_option maxRecDepth 100000
set_option maxHeartbeats 20000000
namespace Gv
open Go Go.Proofs
def Ct:SF:=⟨ae [ab [cy 2 0,cT 4 1],ae [ab [aa 5 1,aF 6 .eql 5 (-1)],bf 6 (ae [ab [ao 7 3 2,aj 8 7,((some 9),.op (.arith .sub (.val (.val (.int .i64 (-1)))) (.tmp 8))),((some 10),.op (.bW 1 1 [(.val (.int .i64 0))] [(0,(.tmp 9))])),aa 4 10],.ret])],ab [ao 11 2 2,aj 12 11,aa 13 1,aI 14 3 12 13,ao 15 1 14,aj 16 15,aa 4 16],.ret],
 [.tmp 4],17⟩
theorem EX:aO Tryz.prog 53 [2]=some Ct:=by kernel_rfl
def Dq:SF:=⟨ae [ab [cy 2 0,cy 3 1,aT 4 0,bw 5 false],ae [ab [aY 7 4 2,ao 8 0 3,aj 9 8,bm 10 53 [7,9],aa 6 10],ab [ao 11 1 3,aj 12 11,aa 13 6,aM 14 13,aQ 15 .lss 12 14],bf 15 (ae [ab [aa 16 6,ao 17 1 3,aj 18 17,aI 19 1 16 18,aj 20 19,aa 4 20,bw 5 true],.ret])],ab [aT 4 0,bw 5 false],.ret],
 [.tmp 4,.tmp 5],21⟩
theorem Gp:aO Tryz.prog 50 [2,3]=some Dq:=by kernel_rfl
def Da:SF:=⟨ae [ab [cy 2 0,aT 4 0],ae [ab [aa 5 1,aF 6 .lss 5 0],bf 6 (ae [ab [ao 7 0 2,aj 8 7,aM 9 8,aF 10 .sub 9 1,aa 11 1,aQ 12 .sub 10 11,aa 4 12],.ret])],ab [aa 13 1,aa 4 13],.ret],
 [.tmp 4],14⟩
theorem Gn:aO Tryz.prog 111 [2]=some Da:=by kernel_rfl
def dg:SF:=⟨ae [ab [cT 2 1],ae [ab [aa 3 0,((some 4),.op (.nil true 0 (.tmp 3) (.val (.emp 1))))],bf 4 (ae [ab [cT 2 1],.ret])],ab [cT 5 2,aa 6 0,gx 7 2 16 5 6,aa 2 7],.ret],
 [.tmp 2],8⟩
theorem dD:aO Tryz.prog 58 []=some dg:=by kernel_rfl
def vo:SC :=
 ae [ab [aQ 54 .lss 53 52],bS 54 (.exit 2),.block 3 (ae [ab [aa 55 53,aI 56 3 51 53,aY 57 3 56,((some 11),.op (.alloc [(.val (.int .i64 0)),(.emp 1),(.val (.int .i64 0))])),aa 10 55,bZ 3 11 57],ab [ao 58 0 11,aj 59 58,aa 60 8,((some 61),.op (.arith .sub (.val (.val (.int .i64 (-1)))) (.tmp 60))),aQ 62 .eql 59 61],bf 62 (ab [aa 63 5,aa 64 10,((some 65),.op (.build [(.val (.int .i64 0)),(.val (.int .i64 0))] [(0,1,(.tmp 64))])),((some 66),.op (.bW 1 2 [(.val (.int .i64 0)),(.val (.int .i64 0))] [(0,(.tmp 65))])),gx 67 2 16 63 66,aa 5 67])]),ab [aF 68 .add 53 1,aa 53 68]]
def uZ:SC :=
 ae [ae [ab [aa 18 7,aa 19 5,aM 20 19,aQ 21 .lss 18 20],bS 21 (.exit 0)],.block 1 (ae [ab [aY 25 4 2,aa 26 5,aa 27 7,aI 28 2 26 27,aY 29 2 28,bm 30 50 [25,29],aa 24 30,eP 31 0 24,eP 32 1 24,aa 8 31,aa 9 32],ae [.region false [⟨none,[aa 33 9,c4 34 33,aa 35 34]⟩,⟨(some (35,false)),[aa 36 8,aF 37 .geq 36 0]⟩,⟨none,[cF 38 35 37,aa 39 38]⟩,⟨(some (39,false)),[aa 40 6,aa 41 8,((some 42),.op (.arith .sub (.val (.val (.int .i64 (-1)))) (.tmp 41))),aI 43 1 40 42,aj 44 43]⟩,⟨none,[cF 45 39 44]⟩],bf 45 (.exit 1)],ab [aa 46 6,aa 47 8,((some 48),.op (.arith .sub (.val (.val (.int .i64 (-1)))) (.tmp 47))),aI 49 1 46 48,(none,.op (.store 1 (.tmp 49) (.val (.val (.bool true)))))],ab [ao 50 2 2,aj 51 50,aM 52 51,aT 53 0],bX 2 vo]),ab [aa 22 7,aF 23 .add 22 1,aa 7 23]]
def yb:SF:=⟨ae [ab [cy 2 0,cT 4 1],ab [aa 12 1,bm 13 58 [12],aa 5 13],ab [ao 14 1 2,aj 15 14,aM 16 15,((some 17),.op (.make 1 1 [(.val (.bool false))] (.tmp 16) (.tmp 16))),aa 6 17],ae [ab [aT 7 0],bX 0 uZ],ab [aa 69 5,bm 70 64 [69],aa 4 70],.ret],
 [.tmp 4],71⟩
theorem CZ:aO Tryz.prog 56 [2]=some yb:=by kernel_rfl
theorem S3 (g:ai) (hs : -100<=g.start/\g.start<=100) (r:Int) (hr : -1<=r/\r < (g.rules.length:Int)):az Tryz.prog 53 [.agg (ag g),gi r] (encI (aP g r)):=by
 refine az.of (by
  intro v a;simp at a
  rcases a with rfl | rfl
  .exact cn _ (dq g)
  .exact .val _) ?_
 refine av.of mixed EX ?_
 unfold aP
 simp(disch:=omega)only[↓wr,seval,wq,Ct,ag,encS]
 apply ah.eq<;>intro h1
 .simp(disch:=omega)only[↓wr,seval,wq,ag,encS]
  intro n
  rw[aaw h1]
  rintro c a
  refine dB.fr (kK (l:=[-1 - g.start]) (.inr ⟨n,rfl,?_⟩))
  rw[a];simp[View.set]
 .have b:g.rules[r.toNat]?=some (aw g r):=by unfold aw;exact getD_some (by omega)
  rw[aat h1]
  generalize aw g r=R at b
  simp(disch:=omega)only[↓wr,seval,wq,ag,encS,aav,b,aaz,aU]
  intro c _
  exact .tree _ (fa R.right)
theorem Lj (g:ai) (c:g.dM) (x:aA) (b:cG g x):az Tryz.prog 50 [.agg (ag g),.agg (bF x)] (.bD [gi (bp g x).1,gb (bp g x).2]):=by
 have h1:=S3 g (uj c) x.ax b.1
 have hl:=fy c b.1
 have hd:=b.2
 refine az.tree (by
  intro v a;simp at a
  rcases a with rfl | rfl
  .exact cn _ (dq g)
  .exact cn _ λv a=>by simp[bF] at a;rcases a with rfl | rfl <;> exact .val _) (.bD _ λi hi=>by
   match i,hi with
   | 0,_=>exact .val _
   | 1,_=>exact .val _) λH=>?_
 refine av.of mixed Gp ?_
 simp only[ag,encS,encI] at h1
 unfold bp
 simp(disch:=omega)only[↓wr,seval,wq,Dq,ag,encS,bF]
 refine ay.pure h1 ?_
 generalize aP g x.ax=R at hd hl ⊢
 simp(disch:=omega)only[↓wr,seval,wq,bF]
 apply ah.dec<;>intro d
 .have e:R[x.dot.toNat]?=some (R.getD x.dot.toNat 0):=getD_some (by omega)
  simp(disch:=omega)only[↓wr,seval,wq,bF,aav,e,aaz]
  rw[aat (by omega)]
 .simp(disch:=omega)only[↓wr,seval,wq]
  rw[aaw (by omega)]
theorem V4 (g:ai) (b:g.dM) (s:Int) (hs : -1000<=s/\s<=1000):az Tryz.prog 111 [.agg (ag g),gi s] (gi (kW g s)):=by
 have c:=b.af
 refine az.val (by
  intro v a;simp at a
  rcases a with rfl | rfl
  .exact cn _ (dq g)
  .exact .val _) λH=>?_
 refine av.of mixed Gn ?_
 unfold kW
 simp(disch:=omega)only[↓wr,seval,wq,Da,ag,encS]
 apply ah.dec<;>intro h1
 .simp(disch:=omega)only[↓wr,seval,wq,ag]
  rw[aaw h1]
 .simp(disch:=omega)only[↓wr,seval,wq]
  rw[aat h1]
theorem cd.Zz {P:Program} {f:FuncId} {h:aG} {u:V} (hu:∀ Z μ hp x,aB Z μ hp u x->∃ a cap,x=.slice a 0 cap/\(a=none->cap=0)) (h1:cd P f [.emp 1] h (.emp 1) h) (n:cd P f [.emp 2] h (.emp 2) h) (o:cd P f [.ep] h (.emp 2) h):cd P f [u] h (.emp 0) h:=by
 refine⟨aaD _,λZ μ F w xs j hr d=>?_⟩
 obtain⟨hl,p⟩:=j
 obtain⟨x,rfl⟩:∃ x,xs=[x]:=by
  match xs,hl with
  | [x],_=>exact⟨x,rfl⟩
 have q:aB Z μ w.heap u x:=p 0 (by simp)
 have one:∀ v,aB Z μ w.heap v x->gX Z μ w.heap [v] [x]:=λv h=>⟨rfl,λi hi=>by
  simp at hi;subst hi;exact h⟩
 have b:∀ k,cd P f [if k=3 then .ep else .emp k] h (if k=3 then .emp 2 else .emp k) h->aB Z μ w.heap (if k=3 then .ep else .emp k) x->Calls P f [x].toArray w λe w'=>∃ x g μ',e=.returned x/\aB g μ' w'.heap (.emp 0) x/\jj g μ' w'.heap (cat h F)/\Ext Z μ w h.length g μ' w'/\(∀ id,id < h.length∨h.length<=id->μ' id=μ id):=by
  intro k hk r
  refine(hk.2 Z μ F w [x] (one _ r) hr d).mono ?_
  rintro e w' ⟨y,g,μ',rfl,l,rest⟩
  refine⟨y,g,μ',rfl,?_,rest⟩
  have:∀ m,aB g μ' w'.heap (.emp m) y->aB g μ' w'.heap (.emp 0) y:=λm h=>by
   cases h with | emp _ a _ _=>exact .emp 0 a (by simp) (by simp)
  split at l <;> exact this _ l
 obtain⟨a,cap,rfl,s⟩:=hu Z μ w.heap x q
 cases a with
 | none =>
  have:=s rfl
  subst this
  exact b 1 (by simpa using h1) (.emp 1 none (by simp) (by simp))
 | some a =>
  cases cap with
  | zero=>exact b 2 (by simpa using n) (.emp 2 (some a) (by simp) (by simp))
  | succ c=>exact b 3 (by simpa using o) (.ep a (c+1))
theorem Rb {Z:Nat->Prop} {μ:Mu} {hp:Array Obj} {k:Nat} {x:Value} (h:aB Z μ hp (.emp k) x):∃ a cap,x=.slice a 0 cap/\(a=none->cap=0):=by
 cases h with | emp _ a _ _=>exact⟨a,0,rfl,λ_=>rfl⟩
theorem Um {Z:Nat->Prop} {μ:Mu} {hp:Array Obj} {id off esz:Nat} {x:Value} (h:aB Z μ hp (.sl id off 0 esz) x):∃ a cap,x=.slice a 0 cap/\(a=none->cap=0):=by
 rcases Kp h with ⟨_,a,e⟩ | ⟨b,o0,cap,c,e,f,d,_⟩
 .exact⟨a,0,e,λ_=>rfl⟩
 .exact⟨_,cap,d,λh=>by simp at h⟩
theorem Mw (u:V) (hu:∀ Z μ hp x,aB Z μ hp u x->∃ a cap,x=.slice a 0 cap/\(a=none->cap=0)) (h:aG):cd Tryz.prog 58 [u] h (.emp 0) h:=by
 have hp:∀ v t,Tree v->Tree t->(∀ H,av Tryz.prog 58 [v] H λr _=>r=t)->az Tryz.prog 58 [v] t:=λv t c d h=>az.tree (by intro x b;simp at b;subst b;exact c) d h
 have h1:=hp (.emp 1) (.emp 1) (.emp 1) (.emp 1) (λH=>by
  refine av.of mixed dD ?_
  simp(disch:=omega)only[↓wr,seval,wq,dg])
 have e:=hp (.emp 2) (.emp 2) (.emp 2) (.emp 2) (λH=>by
  refine av.of mixed dD ?_
  simp(disch:=omega)only[↓wr,seval,wq,dg,ke,aco])
 have f:=hp .ep (.emp 2) .ep (.emp 2) (λH=>by
  refine av.of mixed dD ?_
  simp(disch:=omega)only[↓wr,seval,wq,dg,sx,ke,aco])
 exact cd.Zz hu (cd.ij h1 h) (cd.ij e h) (cd.ij f h)
theorem Qi (l:List aA) (hl:l.length<=100000) (u:V) (H:View) (b:ba H u 2 (aV l)):av Tryz.prog 58 [u] H λr H'=>ba H' r 2 (aV l)/\dI H H' r:=by
 cases l with
 | nil =>
  refine⟨by kernel_rfl,?_⟩
  rintro h rfl
  refine⟨.emp 0,h,Mw u (λZ μ hp x c=>?_) h,.refl _,.nil,.emp⟩
  rcases b with ⟨_,k,rfl⟩ | ⟨n,rfl,_⟩
  .exact Rb c
  .exact Um c
 | cons x r =>
  obtain⟨id,hu,a⟩:=b.sl (by rw[bI];simp)
  subst hu
  refine av.of mixed dD ?_
  have he:=ud (H:=H) id 0 r.length 2 2 (aV (x :: r)) a (by rw[bI];simp)
  rw[abO,aaJ (by rw[bI];simp)] at he
  simp only[aaK] at hl
  have hlen:(aV (x :: r)).length=r.length+1:=by rw[bI];rfl
  rw[hlen]
  simp(disch:=omega)only[↓wr,seval,wq,dg,he]
  refine gO (es:=[]) (.inl ⟨rfl,2,rfl⟩) (by simp[aV,bF,List.all_map,aR]) (by unfold aD;rw[hlen];simp;omega) (by unfold aD;rw[hlen];simp;omega) ?_
  intro g i d e
  simp(disch:=omega)only[↓wr,seval,wq]
  refine⟨by simpa using d,λj f=>?_⟩
  exact e j f (by simp[owner])
def dS (ks:List Nat):List aA:=ks.map λ(k:Nat)=>(⟨k,0⟩:aA)
theorem Bb {a:List Nat} {n:Nat} (h:a.Nodup) (hk:∀ k∈a,k < n):a.length<=n:=by
 have:=pH a (List.range n) h λx b=>abl.2 (hk x b)
 simpa using this
theorem RU {l:List Bool} {i:Nat} (h:i < l.length):(dP l).getD i []=[gb (l.getD i false)]:=by
 simp[aaq,h]
structure Tv (g:ai) (l:List aA) (H H':View) (i:Nat) (r su:V) (ks:List Nat) (seen:List Bool):Prop where
 own:bk H' [(r,2,aV (l ++ dS ks)),(su,1,dP seen)]
 f1:dI H H' r
 f2:dI H H' su
 nd:ks.Nodup
 kl:∀ k∈ks,k < g.rules.length
 sl:seen.length=g.ak.length
 s1:∀ (n k:Nat) (R:bg),seen.getD n false=true->g.rules[k]?=some R->R.left=n->k∈ks
 s2:∀ (k:Nat) (R:bg),k∈ks->g.rules[k]?=some R->seen.getD R.left.toNat false=true
 cl:∀ x∈l ++ dS ks,oW g l x
 dn:∀ (j:Nat) (x:aA) (s:Int),j < i->(l ++ dS ks)[j]?=some x->bp g x=(s,true)->s < 0->seen.getD (-1 - s).toNat false=true
 il:i<=(l ++ dS ks).length
theorem Tv.len {g:ai} {l:List aA} {H H':View} {i:Nat} {r b:V} {a:List Nat} {seen:List Bool} (h:Tv g l H H' i r b a seen):a.length<=g.rules.length/\(l ++ dS a).length=l.length+a.length:=by
 refine⟨Bb h.nd h.kl,by simp[dS]⟩
def Z4 (g:ai) (l:List aA) (H:View) (m:Nat) (T:Env) (H':View):Prop:=∃ (i:Nat) (r su:V) (ks:List Nat) (seen:List Bool),m=l.length+g.rules.length - i/\Tv g l H H' i r su ks seen/\T 2=.aH (ag g) 0/\T 5=r/\T 6=su/\T 7=gi i
theorem L6 (g:ai) (W:g.dM) (l:List aA) (hl:∀ x∈l,cG g x) (O:l.length<=10000) (u:V) (H:View) (ho:ba H u 2 (aV l)):av Tryz.prog 56 [.agg (ag g),u] H λr H'=>ba H' r 2 (aV (cL g l))/\dI H H' r:=by
 refine av.of mixed CZ ?_
 have b8:=W.rules
 have b9:=W.ak
 simp(disch:=omega)only[↓wr,seval,wq,yb,ag,encS]
 refine ay.dr ((Qi l (by omega) u H ho).mono ?_)
 rintro r H1 ⟨o1,f1⟩
 simp(disch:=omega)only[↓wr,seval,wq,ag,encS]
 refine⟨⟨aaD _,by unfold aD;omega,by unfold aD;omega⟩,λX=>?_,λX q hq=>?_⟩
 .exact absurd (by have:=W.p7;omega) (show ¬ g.ak.length=0 by have:=W.p7;omega)
 have an:Tv g l H (H1.set q (.arr 1 (List.replicate g.ak.length [gb false]))) 0 r (.sl q 0 g.ak.length 1) [] (List.replicate g.ak.length false):=by
  have e:List.replicate g.ak.length [gb false]=dP (List.replicate g.ak.length false):=by simp
  have b1:bk H1 [(r,2,aV l)]:=⟨λx B=>by simp at B;subst B;exact o1,by
   cases hr:owner r <;> simp[abT,hr]⟩
  have mf:H q=.dead∨H q≠.dead:=by cases H q <;> simp
  have D:H q=.dead:=by
   rcases mf with h | h
   .exact h
   .have:=(f1 q h).1;rw[hq] at this;exact absurd this.symm h
  refine⟨?_,λid c=>?_,λid c=>?_,.nil,by simp,by simp,λn k R h=>?_,by simp,λx B=>.base (by simpa [dS] using B),λj x s h=>by omega,ab5 _⟩
  .have M:=(b1.new hq 1 (List.replicate g.ak.length [gb false])).perm (.swap _ _ _)
   rw[abC] at M
   rw[e] at M ⊢
   simpa [dS] using M
  .have P:id≠q:=by rintro rfl;exact c D
   exact⟨by simp only[View.set];rw[aat P];exact(f1 id c).1,(f1 id c).2⟩
  .have P:id≠q:=by rintro rfl;exact c D
   exact⟨by simp only[View.set];rw[aat P];exact(f1 id c).1,by simp[owner,Ne.symm P]⟩
  .simp only[aaq,abX] at h
   split at h <;> simp at h
 generalize H1.set q (.arr 1 (List.replicate g.ak.length [gb false]))=H2 at an ⊢
 refine aS.intro (Z4 g l H) (l.length+g.rules.length) ⟨0,r,_,[],_,by omega,an,rfl,rfl,rfl,rfl⟩ ?_
 clear an o1 f1 hq
 rintro m T H' ⟨i,r,I,w,seen,rfl,d,t2,t5,t6,t7⟩
 obtain⟨ca,cc⟩:=d.len
 have b2:cU r=some (l ++ dS w).length:=by rw[d.own.head.len,bI]
 simp(disch:=omega)only[↓wr,seval,wq,uZ,t2,t5,t6,t7,b2]
 apply ah.dec<;>intro hc
 rotate_left
 ·
  have hi:i=(l ++ dS w).length:=by have:=d.il;omega
  simp(disch:=omega)only[↓wr,seval,wq,t5]
  refine ay.dr ((Ng (l ++ dS w) (by omega) r H' d.own.head).mono ?_)
  rintro Q H3 ⟨k3,o3,e3⟩
  simp(disch:=omega)only[↓wr,seval,wq]
  have b3:cL g l=CE (l ++ dS w):=JD W hl (Gd _) (λx B=>d.cl x (tq.1 B)) (λx B=>tq.2 (by simp[B])) (λx B s k R h1 M N h4=>by
   obtain⟨j,hj,e⟩:=abv.1 (tq.1 B)
   have h5:=d.dn j x s (by omega) (by rw[aar hj,e]) h1 M
   have h6:=d.s1 _ k R h5 N (by omega)
   exact tq.2 (ab4 _ (aaM.2 ⟨k,h6,rfl⟩)))
  rw[b3]
  refine⟨o3,λid c=>?_⟩
  obtain⟨q1,q2⟩:=d.f1 id c
  exact⟨by rw[k3 id q2,q1],by rw[e3];exact q2⟩
 have B:(l ++ dS w)[i]?=some ((l ++ dS w)[i]'(by omega)):=aar (by omega)
 have a7:=aaC (show i < (l ++ dS w).length by omega)
 have cf:=d.dn
 generalize (l ++ dS w)[i]'(by omega)=x at B a7
 have a8:=d.cl x a7
 have aq:=a8.has hl
 have h1:=Lj g W x aq
 cases E:bp g x with
 | mk s bb =>
 have cg:=ue W aq E
 rw[E] at h1
 obtain⟨id,hu,c⟩:=d.own.head.sl (by rw[bI];omega)
 simp only at hu c
 rw[bI] at hu
 simp only[ag,encS,bF] at h1
 simp(disch:=omega)only[↓wr,seval,wq,t2,t5,t6,t7,hu,c,ta B,ag,encS]
 refine⟨by omega,by rw[bI];omega,?_⟩
 refine ay.pure h1 ?_
 have skip:(bb=true->s < 0->seen.getD (-1 - s).toNat false=true)->Tv g l H H' (i+1) r I w seen:=λh =>
  ⟨d.own,d.f1,d.f2,d.nd,d.kl,d.sl,d.s1,d.s2,d.cl,λj y t hj G O X=>by
   rcases aaT j i with q | q
   .exact d.dn j y t q G O X
   .have:j=i:=by omega
    subst this
    rw[B] at G
    simp only[aau] at G
    subst G
    rw[E] at O
    simp only[aay] at O
    obtain⟨rfl,rfl⟩:=O
    exact h rfl X,by omega⟩
 cases bb with
 | false =>
  simp(disch:=omega)only[↓wr,seval,wq,t2,t5,t6,t7]
  exact⟨l.length+g.rules.length - (i+1),by omega,i+1,r,I,w,seen,rfl,skip (by simp),t2,by rw[<-hu];exact t5,t6,rfl⟩
 | true =>
 simp(disch:=omega)only[↓wr,seval,wq]
 apply ah.dec<;>intro X
 .simp(disch:=omega)only[↓wr,seval,wq,t2,t5,t6,t7]
  exact⟨l.length+g.rules.length - (i+1),by omega,i+1,r,I,w,seen,rfl,skip (λ_ h=>by omega),t2,by rw[<-hu];exact t5,t6,rfl⟩
 have hG:=oS W aq E
 have bd:(-1 - s).toNat < g.ak.length:=by
  unfold fP at hG
  rw[aat (by omega)] at hG
  simp at hG;omega
 obtain⟨J,z,K⟩:=d.own.tail.head.sl (by simp[d.sl];omega)
 simp only at z K
 rw[aaA,d.sl] at z
 have S:(-1 - s).toNat < seen.length:=by rw[d.sl];exact bd
 simp(disch:=omega)only[↓wr,seval,wq,t6,z,K,RU S]
 refine⟨by omega,by simp[d.sl];omega,?_⟩
 apply ah.split<;>intro M
 .simp(disch:=omega)only[↓wr,seval,wq,t2,t5,t6,t7]
  exact⟨l.length+g.rules.length - (i+1),by omega,i+1,r,I,w,seen,rfl,skip (λ_ _=>M),t2,by rw[<-hu];exact t5,by rw[<-z];exact t6,rfl⟩
 obtain⟨n,O⟩:∃ n:Nat,-1 - s=(n:Int):=⟨(-1 - s).toNat,by omega⟩
 have bl:(-1 - s).toNat=n:=by omega
 rw[bl] at bd S M
 have b4:(dP seen).set n [gb true]=dP (seen.set n true):=by simp[abR]
 simp(disch:=omega)only[↓wr,seval,wq,t2,t5,t6,t7,z,K,ag,encS,O,RU S,b4]
 refine⟨by omega,by simp[d.sl];omega,?_⟩
 have ar:∀ m,(seen.set n true).getD m false=if n=m then true else seen.getD m false:=λm=>by
  rw[dZ]
  by_cases e:n=m
  .rw[aaw ⟨e,S⟩,aaw e]
  .rw[aat (λh=>e h.1),aat e]
 have o2:bk (H'.set J (.arr 1 (dP (seen.set n true)))) [(r,2,aV (l ++ dS w)),(I,1,dP (seen.set n true))]:=by
  have N:=d.own.perm (.swap _ _ _)
  rw[z] at N ⊢
  exact(N.put (es':=dP (seen.set n true)) (by simp) (by simp[d.sl])).perm (.swap _ _ _)
 have L:∀ id,H id≠.dead->id≠J:=λid c e=>by
  have:=(d.f2 id c).2
  rw[z,e] at this
  exact this rfl
 have a1:dI H (H'.set J (.arr 1 (dP (seen.set n true)))) r:=λid c=>⟨by simp only[View.set];rw[aat (L id c)];exact(d.f1 id c).1,(d.f1 id c).2⟩
 have a6:dI H (H'.set J (.arr 1 (dP (seen.set n true)))) I:=λid c=>⟨by simp only[View.set];rw[aat (L id c)];exact(d.f2 id c).1,(d.f2 id c).2⟩
 generalize H'.set J (.arr 1 (dP (seen.set n true)))=H4 at o2 a1 a6 ⊢
 refine aS.up g.rules.length (λk T Y=>∃ (Q:V) (f:List Nat),f=w ++ (List.range k).filter (λ(q:Nat)=>decide ((aw g q).left=n))/\bk Y [(Q,2,aV (l ++ dS f)),(I,1,dP (seen.set n true))]/\dI H Y Q/\dI H Y I /\
  T 2=.aH (ag g) 0/\T 5=Q/\T 6=I/\T 7=gi i/\T 8=gi s/\T 51=.aE (g.rules.map aU)/\T 52=gi g.rules.length/\T 53=gi k) ⟨r,w,by simp,o2,a1,a6,t2,by rw[<-hu];exact t5,by rw[<-z];exact t6,t7,rfl,rfl,rfl,rfl⟩ ?_
 clear t2 t5 t6 t7 o2 a1 a6
 rintro k j T5 Y hk ⟨Q,f,F,o5,f5,g5,t2,t5,t6,t7,t8,t51,t52,t53⟩
 have bn:∀ q,q∈w->¬ (aw g q).left=n:=λq hq e=>by
  have hR:g.rules[q]?=some (aw g q):=by unfold aw;exact getD_some (d.kl q hq)
  have:=d.s2 q _ hq hR
  rw[e] at this
  simp only[aaN] at this
  rw[M] at this;simp at this
 have Z:f.Nodup:=by
  rw[F,abr]
  refine⟨d.nd,(List.nodup_range).filter _,λa ha b hb e=>?_⟩
  subst e
  exact bn a ha (by simpa using (abj.1 hb).2)
 simp(disch:=omega)only[↓wr,seval,wq,vo,t2,t5,t6,t7,t8,t51,t52,t53]
 apply ah.dec<;>intro b5
 .have hR:g.rules[k]?=some (aw g k):=by unfold aw;exact getD_some (by omega)
  have bq:∀ q∈f,q < g.rules.length:=λq hq=>by
   rw[F] at hq
   rcases aaZ.1 hq with h | h
   .exact d.kl q h
   .have:=abl.1 (abj.1 h).1;omega
  have ch:=Bb Z bq
  have p:w ++ (List.range (k+1)).filter (λ(q:Nat)=>decide ((aw g q).left=n))=if (aw g k).left=n then f ++ [k] else f:=by
   rw[abi,abN,<-aa6,<-F]
   by_cases e:(aw g k).left=n <;> simp[e]
  generalize aw g k=R at hR p
  simp(disch:=omega)only[↓wr,seval,wq,t2,t5,t6,t7,t8,t51,t52,t53,aav,hR,aaz,aU]
  intro q hq
  rw[set_set]
  have br:(Y.set q (.arr 3 [[gi R.left,encI R.right,gi R.prec]])) q=.arr 3 [[gi R.left,encI R.right,gi R.prec]]:=by simp[View.set]
  have D:∀ id,H id≠.dead->id≠q:=λid c e=>by
   have:=(f5 id c).1
   rw[e,hq] at this
   exact c (by rw[e];exact this.symm)
  have o6:=o5.fresh (o:=.arr 3 [[gi R.left,encI R.right,gi R.prec]]) hq
  have f6:dI H (Y.set q (.arr 3 [[gi R.left,encI R.right,gi R.prec]])) Q:=λid c=>⟨by simp only[View.set];rw[aat (D id c)];exact(f5 id c).1,(f5 id c).2⟩
  have g6:dI H (Y.set q (.arr 3 [[gi R.left,encI R.right,gi R.prec]])) I:=λid c=>⟨by simp only[View.set];rw[aat (D id c)];exact(g5 id c).1,(g5 id c).2⟩
  generalize Y.set q (.arr 3 [[gi R.left,encI R.right,gi R.prec]])=H6 at br o6 f6 g6
  clear o5 f5 g5 hq D
  simp(disch:=omega)only[↓wr,seval,wq,t2,t5,t6,t7,t8,br,O]
  refine⟨rfl,?_⟩
  apply ah.eq<;>intro he
  .simp(disch:=omega)only[↓wr,seval,wq,t2,t5,t6,t7,t8]
   intro q2 bs
   simp(disch:=omega)only[↓wr,seval,wq,bM]
   have C:∀ id,H id≠.dead->id≠q2:=λid c e=>by
    have:=(f6 id c).1
    rw[e,bs] at this
    exact c (by rw[e];exact this.symm)
   refine ct (o6.fresh bs) (by simp[aR]) (by unfold aD;rw[bI];simp[dS];omega) (by unfold aD;rw[bI];simp[dS];omega) ?_
   intro r3 H7 o7 l7
   simp(disch:=omega)only[↓wr,seval,wq,t2,t6,t7,t8,t51,t52,t53]
   rw[aaw he] at p
   have f7:∀ v,dI H H6 v->(∀ id,owner v=some id->owner Q≠some id/\owner r3≠some id)->dI H H7 v:=λv hv cj id c=>by
    obtain⟨e1,e2⟩:=hv id c
    obtain⟨k1,k2⟩:=l7 id (by simp only[View.set];rw[aat (C id c),e1];exact c) (f6 id c).2
    refine⟨?_,e2⟩
    rw[k1]
    simp only[View.set]
    rw[aat (C id c),e1]
   have f8:dI H H7 r3:=λid c=>by
    obtain⟨e1,e2⟩:=f6 id c
    obtain⟨k1,k2⟩:=l7 id (by simp only[View.set];rw[aat (C id c),e1];exact c) e2
    refine⟨?_,k2⟩
    rw[k1]
    simp only[View.set]
    rw[aat (C id c),e1]
   refine aC hk (by omega) ⟨r3,f ++ [k],p.symm,?_,f8,λid c=>⟨(f8 id c).1,(g6 id c).2⟩,t2,rfl,t6,t7,t8,t51,t52,rfl⟩
   have e1:aV (l ++ dS (f ++ [k]))=aV (l ++ dS f) ++ [[gi k,gi 0]]:=by simp[aV,dS,bF]
   rw[e1]
   exact o7
  .simp(disch:=omega)only[↓wr,seval,wq,t2,t5,t6,t7,t8,t51,t52,t53]
   rw[aat he] at p
   exact aC hk (by omega) ⟨Q,f,p.symm,o6,f6,g6,t2,t5,t6,t7,t8,t51,t52,rfl⟩
 .have b7:k=g.rules.length:=by omega
  subst b7
  simp(disch:=omega)only[↓wr,seval,wq,t2,t5,t6,t7]
  have A:∀ q,q∈f↔q∈w∨(q < g.rules.length/\(aw g q).left=n):=λq=>by
   rw[F,aaZ,abj,abl,aaE]
  have bx:∀ (q:Nat) (R:bg),g.rules[q]?=some R->aw g q=R:=λq R h=>by
   unfold aw
   rw[aaN,aaq,h];rfl
  have b0:∀ (j:Nat),j<=i->(l ++ dS f)[j]?=(l ++ dS w)[j]?:=λj hj=>by
   rw[F,dS,aaS,<-aa6]
   exact aaY (by simp only[dS] at hc;omega)
  refine⟨l.length+g.rules.length - (i+1),by omega,i+1,Q,I,f,seen.set n true,rfl,⟨o5,f5,g5,Z,λq hq=>?_,by rw[aca];exact d.sl,λm q R N h4 h5=>?_,λq R N h4=>?_,λy G=>?_,λj y t hj G U X=>?_,?_⟩,t2,t5,t6,rfl⟩
  .rcases (A q).1 hq with h | h
   .exact d.kl q h
   .exact h.1
  .rw[ar] at N
   split at N
   .rename_i e
    subst e
    exact(A q).2 (.inr ⟨(aaG.1 h4).1,by rw[bx q R h4];exact h5⟩)
   .exact(A q).2 (.inl (d.s1 m q R N h4 h5))
  .rw[ar]
   rcases (A q).1 N with h | h
   .split
    .rfl
    .exact d.s2 q R h h4
   .rw[bx q R h4] at h
    rw[h.2,aaN,aaw rfl]
  .rcases aaZ.1 G with h | h
   .exact d.cl y (abZ _ h)
   .obtain⟨q,hq,rfl⟩:=aaM.1 h
    rcases (A q).1 hq with h | h
    .exact d.cl _ (ab4 _ (aaM.2 ⟨q,h,rfl⟩))
    .have hR:g.rules[q]?=some (aw g q):=by unfold aw;exact getD_some h.1
     exact .step a8 E (by omega) hR (by rw[h.2,O])
  .rw[b0 j (by omega)] at G
   rw[ar]
   rcases aaT j i with q | q
   .split
    .rfl
    .exact d.dn j y t q G U X
   .have:j=i:=by omega
    subst this
    rw[B] at G
    simp only[aau] at G
    subst G
    rw[E] at U
    simp only[aay,and_true] at U
    subst U
    rw[bl,aaw rfl]
  .rw[F,dS,aaS,<-aa6,abd]
   simp only[dS] at hc
   omega
theorem HV {α:Type} (p:α->Bool):∀ (l:List α) (i:Int),0<=i->cz p l i = -1->∀ x∈l,p x=false
 | [],_,_,_=>by simp
 | x :: l,i,b,h=>by
  rw[cz] at h
  split at h
  .omega
  .rename_i hp
   intro y a
   rcases aaI.1 a with rfl | a
   .simpa using hp
   .exact HV p l (i+1) (by omega) h y a
theorem IG {α:Type} (p:α->Bool):∀ (l:List α) (i:Int),0<=i->cz p l i = -1∨∃ (k:Nat) (x:α),cz p l i=i+k/\l[k]?=some x/\p x=true/\∀ y∈l.take k,p y=false
 | [],_,_=>.inl rfl
 | x :: l,i,e=>by
  rw[cz]
  split
  .rename_i hp
   exact .inr ⟨0,x,by simp,rfl,hp,by simp⟩
  .rename_i hp
   rcases IG p l (i+1) (by omega) with h | ⟨k,y,h1,b,c,d⟩
   .exact .inl h
   .refine .inr ⟨k+1,y,by rw[h1];push_cast;omega,by simpa using b,c,λz a=>?_⟩
    rw[ach] at a
    rcases aaI.1 a with rfl | a
    .simpa using hp
    .exact d z a
def Ay:SF:=⟨ae [ab [aT 6 0],ab [aa 10 0,cR 11 10,ao 12 4 11,aj 13 12,aa 14 1,aa 15 2,((some 16),.op (.bW 1 1 [(.val (.int .i64 0))] [(0,(.tmp 15))])),bm 17 28 [13,14,16],aa 9 17,eP 18 0 9,eP 19 1 9,aa 7 18,aa 8 19],ab [aa 20 7,aa 6 20],.ret],
 [.tmp 6],21⟩
theorem DE:aO Tryz.prog 119 []=some Ay:=by kernel_rfl
def tb:SF:=⟨ae [ab [bw 3 false],.region false [⟨none,[aa 4 0,aF 5 .geq 4 0,aa 6 5]⟩,⟨(some (6,false)),[aj 7 1,cR 8 7,ao 9 5 8,aj 10 9,aa 11 0,((some 12),.op (.arith .sub (.val (.val (.int .i64 (-1)))) (.tmp 11))),aI 13 1 10 12,aj 14 13,c4 15 14]⟩,⟨none,[cF 16 6 15,aa 3 16]⟩],.ret],
 [.tmp 3],17⟩
theorem xR:aO Tryz.prog 172 []=some tb:=by kernel_rfl
def vt:SF:=⟨ae [ab [cy 2 0,bw 4 false],ab [aa 5 1,((some 6),.op (.rQ 172 [] [(.tmp 2)])),bm 7 91 [5,6],c4 8 7,aa 4 8],.ret],
 [.tmp 4],9⟩
theorem AN:aO Tryz.prog 121 [2]=some vt:=by kernel_rfl
def FC:SC :=
 ae [ab [aQ 8 .lss 7 6],bS 8 (.exit 0),.block 1 (ae [ab [aI 9 1 5 7,aj 10 9,aa 4 10],ab [aa 11 2,aa 12 4,bm 13 124 [12],aQ 14 .or 11 13,aa 2 14]]),ab [aF 15 .add 7 1,aa 7 15]]
def KM:SF:=⟨ae [ab [((some 2),.op (.eF (.val (.val (.int .u32 0)))))],ae [ab [aa 5 0,aM 6 5,aT 7 0],bX 0 FC],ab [aa 16 2,aa 2 16],.ret],
 [.tmp 2],17⟩
theorem L5:aO Tryz.prog 120 []=some KM:=by kernel_rfl
theorem Jn {H:View} {W:Nat} {f0 f1 f2 f3 f5 f6 f7 f8 f9:V} {a:List aL} (hW:H W=.arr 10 [[f0,f1,f2,f3,aW a,f5,f6,f7,f8,f9]]) (c:aK a) (he:∀ s∈a,aK s.aJ/\∀ e∈s.aJ,b6 e.sym/\b6 e.to) (st sym:Int) :
  av Tryz.prog 119 [.ptr W 0 0,gi st,gi sym] H λr H'=>r=gi (ef a st [sym]).1/\∀ id,H id≠.dead->H' id=H id:=by
 refine av.of mixed DE ?_
 simp(disch:=omega)only[↓wr,seval,wq,Ay,hW]
 intro q hq
 have hw:=VL a c he st [sym] (by unfold aK;simp)
 refine ay.xB hw (by kernel_rfl) (.bD _ λi hi=>by
  match i,hi with
  | 0,_=>exact⟨_,rfl⟩
  | 1,_=>exact⟨_,rfl⟩) ⟨.tree (lH a),.tree (.val _),ew.U9 (l:=[sym]) (.inr ⟨q,rfl,by simp[View.set]⟩),trivial⟩ ?_
 simp(disch:=omega)only[↓wr,seval,wq]
 intro id b
 rw[aat (λe=>b (by rw[e];exact hq))]
theorem Sa (l:List Int) (hl:aK l) (f:FuncId) (cap:List V) (p:Int->Bool) (H:View) (e:∀ x∈l,av Tryz.prog f (gi x :: cap) H λr H'=>r=gb (p x)/\H'=H) :
  av Tryz.prog 133 [encI l,.fn f [] cap] H λr H'=>r=gi (cz p l 0)/\H'=H:=by
 refine av.of mixed gn ?_
 unfold aK at hl
 simp(disch:=omega)only[↓wr,seval,wq,fu,encI]
 refine aS.up l.length (λi T H'=>H=H'/\cz p (l.drop i) i=cz p l 0/\T 0=encI l/\T 1=.fn f [] cap/\T 7=gi l.length/\T 8=gi i) ⟨rfl,rfl,rfl,rfl,rfl,rfl⟩ ?_
 rintro i k T _ hk ⟨rfl,hi,a,h1,b,c⟩
 simp(disch:=omega)only[↓wr,seval,wq,eY,a,h1,b,c]
 apply ah.dec<;>intro g
 .have d:l[i]?=some (l[i]'(by omega)):=aar (by omega)
  have hm:l[i]'(by omega)∈l:=aaC _
  rw[eZ (show i < l.length by omega)] at hi
  generalize l[i]'(by omega)=x at d hm hi
  simp(disch:=omega)only[↓wr,seval,wq,a,h1,b,c,encI,aav,d,aaz]
  refine ay.dr ((e x hm).mono ?_)
  rintro r h ⟨rfl,rfl⟩
  simp only[cz] at hi
  simp(disch:=omega)only[↓wr,seval,wq]
  apply ah.split<;>intro hp
  .simp(disch:=omega)only[↓wr,seval,wq,a,h1,b,c]
   rw[<-hi,aaw hp]
  .simp(disch:=omega)only[↓wr,seval,wq,a,h1,b,c]
   refine aC hk (by omega) ⟨rfl,?_,a,h1,b,rfl⟩
   rw[aat (by simp[hp])] at hi
   push_cast;exact hi
 .rw[aaV (by omega)] at hi
  simp(disch:=omega)only[↓wr,seval,wq,a,h1,b,c]
  rw[<-hi];rfl
theorem LK (l:List Int) (hl:aK l) (f:FuncId) (cap:List V) (p:Int->Bool) (H:View) (a:∀ x∈l,av Tryz.prog f (gi x :: cap) H λr H'=>r=gb (p x)/\H'=H) :
  av Tryz.prog 91 [encI l,.fn f [] cap] H λr H'=>r=gb (l.any p)/\H'=H:=by
 refine av.of mixed fH ?_
 simp(disch:=omega)only[↓wr,seval,wq,eM]
 refine ay.dr ((Sa l hl f cap p H a).mono ?_)
 rintro r b ⟨rfl,rfl⟩
 simp(disch:=omega)only[↓wr,seval,wq]
 rw[<-oN p l 0 (Int.le_refl _)]
theorem Uh {H:View} {W:Nat} {f0 f1 f2 f3 f4 f6 f7 f8 f9:V} {null:List Bool} (hW:H W=.arr 10 [[f0,f1,f2,f3,f4,bO null,f6,f7,f8,f9]]) (s:Int) (hs:b6 s/\(s < 0->-1 - s < null.length)) :
  av Tryz.prog 172 [gi s,.aH [.ptr W 0 0] 0] H λr H'=>r=gb (!(if 0<=s then false else null.getD (-1 - s).toNat false))/\H'=H:=by
 obtain⟨a,c⟩:=hs
 unfold b6 at a
 refine av.of mixed xR ?_
 simp(disch:=omega)only[↓wr,seval,wq,tb]
 apply ah.dec<;>intro d
 .simp(disch:=omega)only[↓wr,seval,wq]
  rw[aaw d];rfl
 .have e:null[(-1 - s).toNat]?=some (null.getD (-1 - s).toNat false):=getD_some (by have:=c (by omega);omega)
  generalize null.getD (-1 - s).toNat false=b at e ⊢
  simp(disch:=omega)only[↓wr,seval,wq,hW,bO,aav,e,aaz]
  rw[aat d]
theorem UE {H:View} {W:Nat} {f0 f1 f2 f3 f4 f6 f7 f8 f9:V} {null:List Bool} (hW:H W=.arr 10 [[f0,f1,f2,f3,f4,bO null,f6,f7,f8,f9]]) (l:List Int) (hl:aK l) (hs:∀ s∈l,b6 s/\(s < 0->-1 - s < null.length)) :
  av Tryz.prog 121 [.ptr W 0 0,encI l] H λr H'=>r=gb (cP l null false)/\H'=H:=by
 refine av.of mixed AN ?_
 simp(disch:=omega)only[↓wr,seval,wq,vt]
 refine ay.dr ((LK l hl 172 [.aH [.ptr W 0 0] 0] (λs=>!(if 0<=s then false else null.getD (-1 - s).toNat false)) H (λs h=>Uh hW s (hs s h))).mono ?_)
 rintro r a ⟨rfl,rfl⟩
 simp(disch:=omega)only[↓wr,seval,wq]
 rw[cP,List.not_any_eq_all_not]
 simp
theorem Ix (t:Int):az Tryz.prog 120 [encI [t]] (gw (dT t)):=by
 refine az.val (by intro v a;simp at a;subst a;exact fa _) λH=>?_
 refine av.of mixed L5 ?_
 simp(disch:=omega)only[↓wr,seval,wq,KM,encI]
 refine aS.up 1 (λi T H'=>T 2=gw (if i=0 then 0 else dT t)/\T 5=encI [t]/\T 6=gi 1/\T 7=gi i) ⟨rfl,rfl,rfl,rfl⟩ ?_
 rintro i k T H' hk ⟨t2,t5,t6,t7⟩
 simp(disch:=omega)only[↓wr,seval,wq,FC,t2,t5,t6,t7]
 apply ah.dec<;>intro b
 .have hi:i=0:=by omega
  subst hi
  simp(disch:=omega)only[↓wr,seval,wq,t2,t5,t6,t7,encI,show ([[gi t]]:List (List V))[0]?=some [gi t] from rfl]
  refine ay.pure (Hk t) ?_
  simp(disch:=omega)only[↓wr,↓reduceIte,wq,Nat.reduceEqDiff,Nat.reduceAdd,Nat.reduceLT,Nat.reduceLeDiff,Int.reduceNeg,Int.reduceToNat,reduceCtorEq,t2,t5,t6,t7,uR]
  exact aC hk (by omega) ⟨by show gw ((0:BV) ||| dT t)=gw (dT t);rw[show ((0:BV) ||| dT t)=dT t by simp],t5,t6,rfl⟩
 .have hi:i≠0:=by omega
  rw[aat hi] at t2
  simp(disch:=omega)only[↓wr,seval,wq,t2]
section
variable {κ:Type} [BEq κ] [LawfulBEq κ] {kv:κ->V} {P:Program} {T:Env} {H:View} {kt et t ty:TypeId}
theorem ZH {K:V->View->Prop} {w:cO (T,H,K)} {x i y:Operand} {id c:Nat} {m:bY κ} {k:κ} {v:V} (hm:dQ P t=some (kt,et)) (hk:LL P kt kv)
  (d:ev T x=.mp id) (hi:ev T i=kv k) (e:ev T y=v) (hH:H id=.map (bP kv m) c) (f:ix m c)
  (h:∀ g,ix (bN k v c m) g->K .any (H.set id (.map (bP kv (bN k v c m)) g))):km P (.mapUpdate t x i y) ty T H K w:=by
 intro n _
 have a:=hk.find k false m
 have b:=oR (kv:=kv) k m
 cases l:iF k m with
 | some j =>
  rw[l] at b a
  obtain⟨z,h1,r,s,o,p,q⟩:=b
  refine⟨.any,.fQ id (.map ((bP kv m).set j (kv k,v,z.2.2)) c),[id],?_,?_⟩
  .simp only[sI,cD,oper,gj,hm,d,hi,e,hH,a,p,hk.same k,if_true]
  .rw[(q v c).1];exact h c (f.UQ o v c)
 | none =>
  rw[l] at b a
  refine⟨.any,.fQ id (.map (bP kv m ++ [(kv k,v,c)]) (c+1)),[id],?_,?_⟩
  .simp only[sI,cD,oper,gj,hm,d,hi,e,hH,a]
  .rw[(b.2.2 v c).1];exact h (c+1) (f.put k v)
end
def fE (x:Int × Int):V:=.agg [.val (.int .i64 x.1),.val (.int .i64 x.2)]
def rX (x:Int × Int):Value:=.agg #[.int .i64 x.1,.int .i64 x.2]
theorem GB (x:Int × Int):dH (fE x)=some (rX x):=rfl
theorem Ij:∀ m:bY (Int × Int),ji (bP fE m)=some (m.map λx=>{ key:=rX x.1,val:=.nilFunc,born:=x.2.2 })
 | []=>rfl
 | x :: r=>by
  have:=Ij r
  simp only[bP] at this
  simp[bP,ji,GB,this]
structure U7 (P:Program) (kt:TypeId):Prop where
 ty:∃ f0 f1:Field,P.underlying kt=some (.struct #[f0,f1])/\f0.name≠ "_" /\ f1.name≠ "_" /\ P.underlying f0.type=some (.int .i64)/\P.underlying f1.type=some (.int .i64)/\f0.offset=0/\f1.offset=1
 held:P.stoodInHeld kt=false
theorem CH {P:Program} {kt:TypeId} (h:U7 P kt):LL P kt fE where
 same:=λk=>by simp[sameKey,GB,rX,Instr.sameBits]
 find:=by
  obtain⟨f0,f1,hu,q,n1,f,g,o0,l⟩:=h.ty
  have heq:∀ a b:Int × Int,bL P (Op.equal kt (rX a) (rX b))=some (a == b):=by
   intro a b
   have s:ik P 9998 #[.int .i64 a.1,.int .i64 a.2] #[.int .i64 b.1,.int .i64 b.2] [f0,f1] ((a.1 == b.1) && ((a.2 == b.2) && true)) :=
    .int f0 _ _ .i64 _ _ q f (by rw[o0];rfl) (by rw[o0];rfl) (.int f1 _ _ .i64 _ _ n1 g (by rw[l];rfl) (by rw[l];rfl) .nil)
   rw[rX,rX,vI hu h.held s]
   congr 1
   rw[abu]
   simp only[aaB,abH,and_true]
   cases a;cases b;simp
  have c:∀ (k:Int × Int) (m:bY (Int × Int)) (i:Nat),bL P (Instr.findAsking kt (rX k) (m.map λx=>{ key:=rX x.1,val:=.nilFunc,born:=x.2.2 }) i)=some ((iF k m).map λj=>(i+j,.nilFunc)):=by
   intro k m
   induction m with
   | nil=>intro i;rfl
   | cons x r t =>
    intro i
    simp only[aaW,Instr.findAsking,bE,heq,abf,iF]
    cases hk:k == x.1 with
    | true=>simp[BT]
    | false =>
     simp only[aaU,if_false,t (i+1),Option.map_map]
     congr 2
     funext j
     simp only[Function.comp]
     congr 1
     omega
  have hint:∀ (e:Bool) (n:TypeId) (v:Value),P.underlying n=some (.int .i64)->bL P (Instr.checkKey e 9999 n v)=some ():=λe n v o=>yO o trivial e 9998 v
  have d:∀ (k:Int × Int) (e:Bool),bL P (Instr.checkKey e 10000 kt (rX k))=some ():=by
   intro k e
   unfold Instr.checkKey rX
   rw[bE,eW hu,abf]
   have u:=kz (P:=P) f (.inr ⟨_,rfl⟩) #[.int .i64 k.1,.int .i64 k.2] f0.offset (v:=.int .i64 k.1) (by rw[o0];rfl)
   have w:=kz (P:=P) g (.inr ⟨_,rfl⟩) #[.int .i64 k.1,.int .i64 k.2] f1.offset (v:=.int .i64 k.2) (by rw[l];rfl)
   simp only[<-Array.forIn_toList,List.forIn_cons,List.forIn_nil,aaw q,aaw n1,bE,u,w,hint e _ _ f,hint e _ _ g,abf,BT]
  intro k e m
  have p:bL P (underlying kt)=some _:=eW hu
  simp only[oD,GB,Ij,bE,d,abf]
  have:bL P (Instr.findKey kt (rX k) (m.map λx=>{ key:=rX x.1,val:=.nilFunc,born:=x.2.2 }))=some ((iF k m).map λj=>(0+j,.nilFunc)):=by
   unfold Instr.findKey
   rw[bE,p,abf]
   cases m with
   | nil=>rfl
   | cons x r=>exact c k (x :: r) 0
  rw[this]
  cases iF k m with
  | none=>rfl
  | some j=>simp
def yh:SC :=
 ae [ab [aQ 29 .lss 28 27],bS 29 (.exit 2),.block 3 (ae [ab [aI 30 2 26 28,aY 31 2 30,((some 9),.op (.alloc [(.val (.int .i64 0)),(.val (.int .i64 0))])),bZ 2 9 31],ab [ao 32 0 9,aj 33 32,aF 34 .lss 33 0],bf 34 (ae [ab [aa 35 6,ao 36 0 9,aj 37 36,((some 38),.op (.arith .sub (.val (.val (.int .i64 (-1)))) (.tmp 37))),((some 39),.op (.build [(.val (.int .i64 0)),(.val (.int .i64 0))] [(0,1,(.tmp 35)),(1,1,(.tmp 38))])),((some 10),.op (.alloc [(.val (.int .i64 0)),(.val (.int .i64 0))])),bZ 2 10 39],ab [aa 40 5,cR 41 40,ao 42 6 41,aj 43 42,aY 44 2 10,aa 45 5,cR 46 45,ao 47 7 46,aj 48 47,aM 49 48,(none,.op (.old (.mapUpdate 110 (.tmp 43) (.tmp 44) (.tmp 49)) 0))],ab [aa 50 5,aa 51 5,cR 52 51,ao 53 7 52,aj 54 53,aY 55 2 10,((some 56),.op (.bW 1 2 [(.val (.int .i64 0)),(.val (.int .i64 0))] [(0,(.tmp 55))])),gx 57 2 16 54 56,cR 58 50,ao 59 7 58,bZ 1 59 57]])]),ab [aF 60 .add 28 1,aa 28 60]]
def yu:SC :=
 ae [ab [aQ 21 .lss 20 19],bS 21 (.exit 0),.block 1 (ae [ab [aa 22 20,aI 23 2 18 20,aY 24 2 23,((some 7),.op (.alloc [(.emp 1),(.emp 1)])),aa 6 22,bZ 2 7 24],ab [ao 25 1 7,aj 26 25,aM 27 26,aT 28 0],bX 2 yh]),ab [aF 61 .add 20 1,aa 20 61]]
def Bn:SF:=⟨ae [ab [cy 2 0,((some 4),.op (.eF (.val (.val (.pointer none)))))],.region true [⟨none,[aY 11 4 2,aa 12 1,aY 13 4 2,bm 14 118 [13],((some 15),.op (.p9)),((some 16),.op (.build [(.emp 1),(.emp 1),(.emp 1),(.val (.int .i64 0)),(.emp 1),(.emp 1),(.val (.map none)),(.emp 1),(.emp 1),(.emp 1)] [(0,4,(.tmp 11)),(4,1,(.tmp 12)),(5,1,(.tmp 14)),(6,1,(.tmp 15))])),((some 17),.op (.box (.tmp 16))),aa 5 17]⟩],ae [ab [aa 18 1,aM 19 18,aT 20 0],bX 0 yu],ab [aa 62 5,aa 63 5,cR 64 63,ao 65 7 64,aj 66 65,aM 67 66,((some 68),.op (.make 1 4 [(.val (.int .u32 0))] (.tmp 67) (.tmp 67))),cR 69 62,ao 70 8 69,bZ 1 70 68],ab [aa 71 5,aa 72 5,cR 73 72,ao 74 7 73,aj 75 74,aM 76 75,((some 77),.op (.make 1 24 [(.emp 1)] (.tmp 76) (.tmp 76))),cR 78 71,ao 79 9 78,bZ 1 79 77],ab [aa 80 5,aa 4 80],.ret],
 [.tmp 4],81⟩
theorem EU:aO Tryz.prog 72 [2]=some Bn:=by kernel_rfl
theorem yK:U7 Tryz.prog 116 :=
 ⟨⟨⟨ "state",3,0,false,"","gerund/look",0⟩,⟨ "non",3,1,false,"","gerund/look",8⟩,by kernel_rfl,by decide,by decide,Tryz.underlying3,Tryz.underlying3,rfl,rfl⟩,by kernel_rfl⟩
def kB (i:Nat) (l:List cr):List (Int × Int):=(l.filter λe=>decide (e.sym < 0)).map λe=>((i:Int),-1 - e.sym)
def lV (a:List aL) (n:Nat):List (Int × Int):=(List.range n).flatMap λi=>kB i (a.getD i aN).aJ
abbrev bj (a:List aL):List (Int × Int):=lV a a.length
theorem zx (a:List aL) (n:Nat):lV a (n+1)=lV a n ++ kB n (a.getD n aN).aJ:=by
 unfold lV
 rw[abi,List.flatMap_append];simp
theorem Vc {i j:Nat} {l:List cr} {e:cr} (h:l[j]?=some e):kB i (l.take (j+1))=if e.sym < 0 then kB i (l.take j) ++ [((i:Int),-1 - e.sym)] else kB i (l.take j):=by
 unfold kB
 rw[wH h]
 by_cases he:e.sym < 0
 .simp[he]
 .simp[he]
theorem XB {a:List aL} : ∀ {n m:Nat},n<=m->lV a n <+: lV a m:=λ{n m} h=>by
 induction h with
 | refl=>exact List.prefix_refl _
 | step _ b=>rw[zx];exact b.trans (List.prefix_append _ _)
theorem Ob (i:Nat) (l:List cr):(kB i l).length<=l.length:=by
 unfold kB;rw[aaA];exact abh _ _
theorem nz {a:List aL} (h:∀ s∈a,s.aJ.length<=40):∀ n,(lV a n).length<=40 * n
 | 0=>by simp[lV]
 | n+1=>by
  have b:=nz h n
  rw[zx,abd]
  have h1:=Ob n (a.getD n aN).aJ
  have c:(a.getD n aN).aJ.length<=40:=by
   rcases aaT n a.length with q | q
   .exact h _ (aax (getD_some q))
   .rw[aaq,aa1 q];simp[aN]
  omega
abbrev oF (ws:List (Int × Int)):List (List V):=ws.map λx=>[gi x.1,gi x.2]
def JY (ws:List (Int × Int)) (M:bY (Int × Int)):Prop:=∀ (k:Nat) (x:Int × Int),ws[k]?=some x->getM M x=some (gi k)
theorem JY.put {ws:List (Int × Int)} {M:bY (Int × Int)} (h:JY ws M) {x:Int × Int} (d:x ∉ ws) (c:Nat):JY (ws ++ [x]) (bN x (gi ws.length) c M):=λk y a=>by
 rw[r5]
 by_cases hk:k < ws.length
 .rw[aaY hk] at a
  have b:(y == x)=false:=beq_eq_false_iff_ne.2 λe=>d (e ▸ aax a)
  rw[b]
  exact h k y a
 .rw[aa7 (by omega)] at a
  have:k - ws.length=0:=by
   rcases Nat.eq_zero_or_pos (k - ws.length) with q | q
   .exact q
   .rw[aa1 (by simp;omega)] at a;simp at a
  rw[this] at a
  simp at a
  subst a
  rw[ab1,aaw rfl,show k=ws.length by omega]
abbrev jK (A:List (V × List Nat)):List cx:=A.map λx=>(x.1,1,gp x.2)
structure dh (g:ai) (a:List aL) (H:View) (W qn cM:Nat) (M:bY (Int × Int)) (uw:V) (s e:Nat) (ws:List (Int × Int)) (Sl:List BV) (A:List (V × List Nat)) (L:List cx):Prop where
 own:bk H ((.sl W 0 1 10,10,[[.aE (g.af.map cm),.aE (g.ak.map λs=>[gs s]),.aE (g.rules.map aU),gi g.start,aW a,bO (au g false),.mp qn,uw,.sl s 0 ws.length 1,.sl e 0 ws.length 1]]) :: (uw,2,oF ws) :: (.sl s 0 ws.length 1,1,bV Sl) :: (.sl e 0 ws.length 1,1,bt A) :: (jK A ++ L))
 mp:H qn=.map (bP fE M) cM
 bo:ix M cM
 num:JY ws M
 sl:Sl.length=ws.length
 al:A.length=ws.length
def N7 (g:ai) (a:List aL) (H:View) (W qn:Nat) (ws:List (Int × Int)):Prop:=∃ (uw:V) (cM:Nat) (M:bY (Int × Int)),
 bk H [(.sl W 0 1 10,10,[[.aE (g.af.map cm),.aE (g.ak.map λs=>[gs s]),.aE (g.rules.map aU),gi g.start,aW a,bO (au g false),.mp qn,uw,.emp 1,.emp 1]]),(uw,2,oF ws)]/\H qn=.map (bP fE M) cM/\ix M cM/\JY ws M
theorem N7.fresh {g:ai} {a:List aL} {H:View} {W qn:Nat} {ws:List (Int × Int)} (h:N7 g a H W qn ws) {q:Nat} (hq:H q=.dead) {o:di} : N7 g a (H.set q o) W qn ws:=by
 obtain⟨uw,cM,M,h1,b,c,d⟩:=h
 refine⟨uw,cM,M,h1.fresh hq,?_,c,d⟩
 simp only[View.set];rw[aat (λe=>by rw[e,hq] at b;simp at b)];exact b
theorem bk.UC {H:View} {L:List cx} (h:bk H L):∀ n:Nat,bk H (L ++ jK (List.replicate n (.emp 1,[])))
 | 0=>by simpa using h
 | n+1=>by
  have a:=(bk.UC h n).emp (k:=1) (sz:=1)
  rw[List.replicate_succ,jK,aaW]
  exact a.perm aba.symm
theorem Vb (g:ai) (hg:g.Ok) (b0:g.Small) (a:List aL) (ha:a.length<=300) (he:∀ s∈a,s.aJ.length<=40/\∀ e∈s.aJ,-1000<=e.sym/\e.sym<=1000) (b1:(bj a).Nodup) (h1:1<=(bj a).length) (H:View) :
  av Tryz.prog 72 [.agg (ag g),aW a] H λr H'=>∃ (W qn cM:Nat) (M:bY (Int × Int)) (uw:V) (s e:Nat),r=.ptr W 0 0/\dh g a H' W qn cM M uw s e (bj a) (List.replicate (bj a).length 0) (List.replicate (bj a).length (.emp 1,[])) []:=by
 refine av.of mixed EU ?_
 have an:=(B8 g hg b0).pure
 have hlen:=nz (λs h=>(he s h).1)
 simp only[ag,encS] at an
 simp(disch:=omega)only[↓wr,seval,wq,Bn,ag,encS]
 refine ay.pure an ?_
 simp(disch:=omega)only[↓wr,seval,wq,aW,bO]
 intro qn aq W hW
 have D:W≠qn:=λe=>by rw[aaw e] at hW;simp at hW
 rw[aat D] at hW
 have p:N7 g a ((H.set qn (.map [] 0)).set W (.arr 10 [[.aE (g.af.map cm),.aE (g.ak.map λs=>[gs s]),.aE (g.rules.map aU),gi g.start,aW a,bO (au g false),.mp qn,.emp 1,.emp 1,.emp 1]])) W qn (lV a 0):=by
  refine⟨.emp 1,0,[],?_,by simp[View.set,Ne.symm D,bP],⟨by simp,by simp⟩,λk x h=>by simp[lV] at h⟩
  exact((bk.nil.emp (k:=1) (sz:=2)).fresh aq).new (n:=W) (by simp[View.set,D,hW]) 10 [[.aE (g.af.map cm),.aE (g.ak.map λs=>[gs s]),.aE (g.rules.map aU),gi g.start,aW a,bO (au g false),.mp qn,.emp 1,.emp 1,.emp 1]]
 refine aS.up a.length (λi T H'=>N7 g a H' W qn (lV a i)/\T 5=.ptr W 0 0/\T 18=aW a/\T 19=gi a.length/\T 20=gi i) ⟨p,rfl,rfl,rfl,rfl⟩ ?_
 clear p hW aq D
 rintro i k T H' hk ⟨hI,t5,t18,t19,t20⟩
 simp(disch:=omega)only[↓wr,seval,wq,yu,t5,t18,t19,t20]
 apply ah.dec<;>intro hc
 rotate_left
 .have b2:i=a.length:=by omega
  subst b2
  obtain⟨uw,cM,M,hO,d,E,F⟩:=hI
  have w:=hO.is 0 rfl (by simp)
  have G:cU uw=some (bj a).length:=by rw[hO.tail.head.len,aaA]
  have ca:(bj a).length<=40 * a.length:=hlen a.length
  have bx:=hO.tail.head.cells
  have b3:=hO.tail.head.iO
  have I:qn≠W:=λe=>by rw[e,w] at d;simp at d
  have b4:∀ q,H' q=.dead->W≠q:=λq hq e=>by rw[e,hq] at w;simp at w
  simp(disch:=omega)only[↓wr,seval,wq,t5,w,G]
  refine⟨⟨by omega,by unfold aD;omega,by unfold aD;omega⟩,λh0=>by omega,λ_ s hs=>?_⟩
  have w1:=b4 s hs
  simp(disch:=omega)only[↓wr,seval,wq,t5,w,G,w1]
  refine⟨⟨by omega,by unfold aD;omega,by unfold aD;omega⟩,λh0=>by omega,λ_ e t=>?_⟩
  obtain⟨n1,t⟩:=jD t
  obtain⟨n2,t⟩:=jD t
  simp(disch:=omega)only[↓wr,seval,wq,t5,Ne.symm n1]
  have o1:=hO.new hs 1 (List.replicate (bj a).length [V.val (.int .u32 0)])
  have o2:=(o1.perm (.swap _ _ _)).put (es':=[[.aE (g.af.map cm),.aE (g.ak.map λs=>[gs s]),.aE (g.rules.map aU),gi g.start,aW a,bO (au g false),.mp qn,uw,.sl s 0 (bj a).length 1,.emp 1]]) rfl rfl
  have o3:=o2.new (n:=e) (by simp only[View.set];rw[aat n1,aat n2];exact t) 1 (List.replicate (bj a).length [.emp 1])
  have o4:=(o3.perm (.swap _ _ _)).put (es':=[[.aE (g.af.map cm),.aE (g.ak.map λs=>[gs s]),.aE (g.rules.map aU),gi g.start,aW a,bO (au g false),.mp qn,uw,.sl s 0 (bj a).length 1,.sl e 0 (bj a).length 1]]) rfl rfl
  have o5:=(o4.perm (.cons _ (List.reverse_perm _).symm)).UC (bj a).length
  have e1:List.replicate (bj a).length [V.val (.int .u32 0)]=bV (List.replicate (bj a).length 0#32):=by simp
  have e2:List.replicate (bj a).length [V.emp 1]=bt (List.replicate (bj a).length ((V.emp 1,[]):V × List Nat)):=by simp[bt]
  simp only[abC,List.reverse_cons,List.reverse_nil,abF,aa9] at o5
  refine⟨W,qn,cM,M,uw,s,e,rfl,?_,?_,E,F,by simp,by simp⟩
  .rw[<-e1,<-e2,abI];exact o5
  .simp only[View.set]
   rw[aat I,aat (λh=>by rw[h,t] at d;simp at d),aat I,aat (λh=>by rw[h,hs] at d;simp at d)]
   exact d
 have hx:a[i]?=some (a.getD i aN):=getD_some (by omega)
 have l:=zx a i
 have z:=XB (a:=a) (n:=i+1) (m:=a.length) (by omega)
 rw[l] at z
 generalize a.getD i aN=x at hx l z
 obtain⟨cc,b5⟩:=he x (aax hx)
 simp(disch:=omega)only[↓wr,seval,wq,t5,t18,t19,t20,aW,aav,hx,aaz,eu]
 intro q1 ar
 rw[set_set]
 have U:=hI.fresh ar (o:=.arr 2 [[.aE (aV x.bc),.aE (fN x.aJ)]])
 generalize H'.set q1 (.arr 2 [[.aE (aV x.bc),.aE (fN x.aJ)]])=H1 at U ⊢
 refine aS.up x.aJ.length (λj T H'=>N7 g a H' W qn (lV a i ++ kB i (x.aJ.take j))/\T 5=.ptr W 0 0/\T 6=gi i/\T 18=aW a/\T 19=gi a.length/\T 20=gi i/\T 26=.aE (fN x.aJ)/\T 27=gi x.aJ.length/\T 28=gi j) ⟨by simpa [kB] using U,t5,rfl,t18,t19,t20,rfl,by show gi ((fN x.aJ).length:Int)=_;simp[fN],rfl⟩ ?_
 clear t5 t18 t19 t20 hI U ar
 rintro j m T H2 a1 ⟨A,t5,t6,t18,t19,t20,t26,t27,t28⟩
 simp(disch:=omega)only[↓wr,seval,wq,yh,t5,t6,t26,t27,t28]
 apply ah.dec<;>intro b7
 rotate_left
 .simp(disch:=omega)only[↓wr,seval,wq,t5,t18,t19,t20]
  rw[aaJ (by omega),<-l] at A
  exact aC hk (by omega) ⟨A,t5,t18,t19,rfl⟩
 have hy:x.aJ[j]?=some (x.aJ[j]'(by omega)):=aar (by omega)
 have a6:=aaC (show j < x.aJ.length by omega)
 generalize x.aJ[j]'(by omega)=y at hy a6
 have cf:=b5 y a6
 have u:=Vc (i:=i) hy
 simp(disch:=omega)only[↓wr,seval,wq,t5,t6,t18,t19,t20,t26,t27,t28,fN,aav,hy,aaz,kc]
 intro q2 X
 apply ah.dec<;>intro B
 rotate_left
 .simp(disch:=omega)only[↓wr,seval,wq,t5,t6,t18,t19,t20,t26,t27,t28]
  rw[set_set]
  rw[aat B] at u
  exact aC a1 (by omega) ⟨by rw[u];exact A.fresh X,t5,t6,t18,t19,t20,t26,t27,rfl⟩
 rw[aaw B] at u
 rw[set_set]
 have a7:=A.fresh X (o:=.arr 2 [[gi y.sym,gi y.to]])
 have C:(H2.set q2 (.arr 2 [[gi y.sym,gi y.to]])) q2=.arr 2 [[gi y.sym,gi y.to]]:=by simp[View.set]
 generalize H2.set q2 (.arr 2 [[gi y.sym,gi y.to]])=H3 at a7 C ⊢
 clear A X
 simp(disch:=omega)only[↓wr,seval,wq,t5,t6,C]
 intro Q J
 obtain⟨uw,cM,M,hO,d,E,F⟩:=a7
 have K:=hO.is 0 rfl (by simp)
 have R:W≠Q:=λe=>by rw[e,J] at K;simp at K
 have f:qn≠Q:=λe=>by rw[e,J] at d;simp at d
 have G:cU uw=some (lV a i ++ kB i (x.aJ.take j)).length:=by rw[hO.tail.head.len,aaA]
 have cg:=hlen i
 have a8:=Ob i (x.aJ.take j)
 rw[abc] at a8
 have bb:((i:Int),-1 - y.sym) ∉ lV a i ++ kB i (x.aJ.take j):=by
  have h2:(lV a i ++ kB i (x.aJ.take (j+1))).Nodup:=by
   have h3:kB i (x.aJ.take (j+1)) <+: kB i x.aJ:=by
    unfold kB
    refine List.IsPrefix.map _ (List.IsPrefix.filter _ (List.take_prefix _ _))
   obtain⟨r,hr⟩:=h3
   have h4:=z.sublist.nodup b1
   rw[<-hr,<-aa6,abr] at h4
   exact h4.1
  rw[u,<-aa6,abr] at h2
  exact λh=>h2.2.2 _ h _ (by simp) rfl
 have bd:lV a i ++ kB i (x.aJ.take (j+1))=(lV a i ++ kB i (x.aJ.take j)) ++ [((i:Int),-1 - y.sym)]:=by rw[u,aa6]
 have ch:(lV a i ++ kB i (x.aJ.take j)).length<=20000:=by rw[abd];omega
 clear u
 generalize lV a i ++ kB i (x.aJ.take j)=ws at *
 simp(disch:=omega)only[↓wr,seval,wq,t5,t6,R,f,K,G]
 have b8:dQ Tryz.prog 110=some (116,3):=by kernel_rfl
 refine ZH (kv:=fE) (kt:=116) (et:=3) (id:=qn) (c:=cM) (m:=M) (k:=((i:Int),-1 - y.sym)) (v:=gi (ws.length:Int)) b8 (CH yK) (by first | rfl | simp(disch:=omega)only[↓wr,seval,wq]) (by first | rfl | (simp(disch:=omega)only[↓wr,seval,wq];rfl)) (by first | rfl | simp(disch:=omega)only[↓wr,seval,wq]) (by show (View.set (View.set H3 Q _) Q _) qn=_;simp only[View.set];rw[aat f,aat f];exact d) E λY bl=>?_
 rw[set_set]
 have L:=(hO.fresh J (o:=.arr 2 [[gi (i:Int),gi (-1 - y.sym)]])).xM (b:=qn) (c:=cM) (es:=bP fE M) (by simp only[View.set];rw[aat f];exact d) (o:=.map (bP fE (bN ((i:Int),-1 - y.sym) (gi (ws.length:Int)) cM M)) Y)
 have N:((H3.set Q (.arr 2 [[gi (i:Int),gi (-1 - y.sym)]])).set qn (.map (bP fE (bN ((i:Int),-1 - y.sym) (gi (ws.length:Int)) cM M)) Y)) qn=.map (bP fE (bN ((i:Int),-1 - y.sym) (gi (ws.length:Int)) cM M)) Y:=by simp[View.set]
 have bn:((H3.set Q (.arr 2 [[gi (i:Int),gi (-1 - y.sym)]])).set qn (.map (bP fE (bN ((i:Int),-1 - y.sym) (gi (ws.length:Int)) cM M)) Y)) Q=.arr 2 [[gi (i:Int),gi (-1 - y.sym)]]:=by
  simp only[View.set];rw[aat (Ne.symm f)];simp
 have S:=F.put bb cM
 generalize ((H3.set Q (.arr 2 [[gi (i:Int),gi (-1 - y.sym)]])).set qn (.map (bP fE (bN ((i:Int),-1 - y.sym) (gi (ws.length:Int)) cM M)) Y))=H5 at L N bn ⊢
 generalize bN ((i:Int),-1 - y.sym) (gi (ws.length:Int)) cM M=M5 at bl N S
 clear hO d E F K J C R f
 have b9:=L.is 0 rfl (by simp)
 simp(disch:=omega)only[↓wr,seval,wq,t5,b9,bn]
 intro q4 O
 simp(disch:=omega)only[↓wr,seval,wq,bM]
 refine ct ((L.perm (.swap _ _ _)).fresh O) (by simp[aR]) (by unfold aD;simp;omega) (by unfold aD;simp;omega) ?_
 intro bq H6 P l6
 have br:=P.is 1 rfl (by simp)
 have Z:=l6.map (((L.perm (.swap _ _ _)).fresh O).head) (b:=qn) (c:=Y) (es:=bP fE M5) (by simp only[View.set];rw[aat (λe=>by rw[<-e,N] at O;simp at O)];exact N)
 have I:qn≠W:=λe=>by rw[e,br] at Z;simp at Z
 simp(disch:=omega)only[↓wr,seval,wq,t5,t6,t18,t19,t20,t26,t27,t28,br,P.head.cells,P.head.iO]
 have bs:=(P.perm (.swap _ _ _)).put (es':=[[.aE (g.af.map cm),.aE (g.ak.map λs=>[gs s]),.aE (g.rules.map aU),gi g.start,aW a,bO (au g false),.mp qn,bq,.emp 1,.emp 1]]) rfl rfl
 have e:oF ws ++ [[gi (i:Int),gi (-1 - y.sym)]]=oF (ws ++ [((i:Int),-1 - y.sym)]):=by simp
 rw[e] at bs
 refine aC a1 (by omega) ⟨?_,t5,t6,t18,t19,t20,t26,t27,rfl⟩
 rw[bd]
 exact⟨bq,Y,M5,bs,by simp only[View.set];rw[aat I];exact Z,bl,S⟩
def xn (ws:List (Int × Int)) (x:Int × Int):Nat:=(cz (λy=>y == x) ws 0).toNat
theorem kV {ws:List (Int × Int)} {x:Int × Int} (h:x∈ws):ws[xn ws x]?=some x:=by
 unfold xn
 rcases IG (λy=>y == x) ws 0 (Int.le_refl _) with h1 | ⟨k,y,h1,b,a,_⟩
 .have:=HV _ ws 0 (Int.le_refl _) h1 x h
  simp at this
 .rw[h1,show ((0:Int)+(k:Int)).toNat=k by omega,b]
  simp at a
  rw[a]
theorem Ku {ws:List (Int × Int)} (a:ws.Nodup) {k:Nat} {x:Int × Int} (h:ws[k]?=some x):xn ws x=k:=by
 have h1:=kV (aax h)
 exact(List.getElem?_inj (aaG.1 h1).1 a).1 (h1.trans h.symm)
section
variable {g:ai} {a:List aL}
theorem dL {p:Nat} {B:Int} : ((p:Int),B)∈bj a↔0<=B/\ez a p (-1 - B):=by
 simp only[bj,lV,List.mem_flatMap,abl,kB,aaM,abj,aaE,aay,ez]
 constructor
 .rintro⟨i,hi,e,⟨h1,b⟩,c,d⟩
  have:i=p:=by omega
  subst this
  exact⟨by omega,e,h1,by omega⟩
 .rintro⟨f,e,h1,b⟩
  exact⟨p,(CD h1).1,e,⟨h1,by omega⟩,rfl,by omega⟩
theorem vi {x:Int × Int} (h:x∈bj a):∃ p:Nat,x=((p:Int),x.2):=by
 simp only[bj,lV,List.mem_flatMap,abl,kB,aaM] at h
 obtain⟨i,_,e,_,rfl⟩:=h
 exact⟨i,rfl⟩
theorem Tc {i:Nat} {l:List cr} (h:(l.map cr.sym).Nodup):(kB i l).Nodup:=by
 unfold kB
 have h1:((l.filter λe=>decide (e.sym < 0)).map cr.sym).Nodup:=(List.Sublist.map _ List.filter_sublist).nodup h
 unfold List.Nodup at h1 ⊢
 rw[acu] at h1 ⊢
 exact h1.imp λa e=>a (by simp only[aay] at e;omega)
theorem By (h:cq g a):(bj a).Nodup:=by
 have key:∀ n,n<=a.length->(lV a n).Nodup/\∀ x∈lV a n,x.1 < n:=by
  intro n
  induction n with
  | zero=>intro _;simp[lV]
  | succ n i =>
   intro l
   obtain⟨h1,c⟩:=i (by omega)
   rw[zx]
   have hm:=aax (getD_some (d:=aN) (show n < a.length by omega))
   have j:(kB n (a.getD n aN).aJ).Nodup:=Tc (by rw[h.x.all _ hm];exact w6 _ _ _)
   have f:∀ x∈kB n (a.getD n aN).aJ,x.1=n:=λx b=>by
    simp only[kB,aaM] at b
    obtain⟨e,_,rfl⟩:=b;rfl
   refine⟨abr.2 ⟨h1,j,λx b y k e=>?_⟩,λx b=>?_⟩
   .have:=c x b
    have:=f y k
    rw[e] at *
    omega
   .rcases aaZ.1 b with b | b
    .have:=c x b;push_cast;omega
    .have:=f x b;push_cast;omega
 exact(key a.length (aaD _)).1
theorem rO (b:cq g a):1<=(bj a).length:=by
 have c:ez a 0 (-1 - g.start):=(b.mh (by have:=b.pos;omega)).2 ⟨⟨-1,0⟩,(c6 b.cQ (b.bc (by have:=b.pos;omega))).2 (.base (by rw[b.e.first];simp)),by
  unfold bp;rw[aat (by simp[aP])];simp[aP]⟩
 have:=dL.2 ⟨b.cQ.lf,c⟩
 exact List.length_pos_of_mem this
def pW (b:BV) (l:List cr):BV:=l.foldl (λb e=>if 0<=e.sym then b ||| dT e.sym else b) b
def qF (g:ai) (x:Int × Int):BV:=if x.1=0/\x.2=g.start then dT g.af.length else 0
def vw (g:ai) (ws:List (Int × Int)) (q:Nat) (l:List cr):List Nat:=(l.filter λe=>decide (e.sym < 0) && (au g false).getD (-1 - e.sym).toNat false).map λe=>xn ws ((q:Int),-1 - e.sym)
def tH (g:ai) (a:List aL) (x:Int × Int):BV:=pW (qF g x) (a.getD (eT a x.1.toNat (-1 - x.2)) aN).aJ
def oL (g:ai) (a:List aL) (x:Int × Int):List Nat:=vw g (bj a) (eT a x.1.toNat (-1 - x.2)) (a.getD (eT a x.1.toNat (-1 - x.2)) aN).aJ
theorem Im {t:Nat} : ∀ (l:List cr) (b:BV),(pW b l).getLsbD t=true↔b.getLsbD t=true∨∃ e∈l,0<=e.sym/\(dT e.sym).getLsbD t=true
 | [],b=>by simp[pW]
 | e :: l,b=>by
  have c:=Im (t:=t) l (if 0<=e.sym then b ||| dT e.sym else b)
  unfold pW at c ⊢
  rw[aaR,c]
  by_cases h:0<=e.sym
  .rw[aaw h,aa5,abt]
   constructor
   .rintro ((h1 | h1) | ⟨x,h1,a⟩)
    .exact .inl h1
    .exact .inr ⟨e,by simp,h,h1⟩
    .exact .inr ⟨x,by simp[h1],a⟩
   .rintro (h1 | ⟨x,h1,a⟩)
    .exact .inl (.inl h1)
    .rcases aaI.1 h1 with rfl | h1
     .exact .inl (.inr a.2)
     .exact .inr ⟨x,h1,a⟩
  .rw[aat h]
   constructor
   .rintro (h1 | ⟨x,h1,a⟩)
    .exact .inl h1
    .exact .inr ⟨x,by simp[h1],a⟩
   .rintro (h1 | ⟨x,h1,a⟩)
    .exact .inl h1
    .rcases aaI.1 h1 with rfl | h1
     .exact absurd a.1 h
     .exact .inr ⟨x,h1,a⟩
abbrev dK (a:List aL) (x:Nat):Int × Int:=(bj a).getD x (0,0)
theorem DR (c:cq g a) {p t:Nat} {B:Int} (he:ez a p (-1 - B)):(tH g a ((p:Int),B)).getLsbD t=true↔(p=0/\B=g.start/\t=g.af.length)∨(t < g.af.length/\ez a (eT a p (-1 - B)) t):=by
 have j:=c.cQ.af
 obtain⟨_,_,_,_,hq,_⟩:=c.eT he
 unfold tH
 simp only[aaN]
 rw[Im]
 refine or_congr ?_ ?_
 .unfold qF
  simp only
  split
  .rename_i h
   rw[sX (by omega)]
   exact⟨λb=>⟨by omega,h.2,b⟩,λb=>b.2.2⟩
  .rename_i h
   exact⟨λb=>by simp at b,λb=>absurd ⟨by omega,b.2.1⟩ h⟩
 .constructor
  .rintro⟨e,h1,b,d⟩
   have hE:ez a (eT a p (-1 - B)) e.sym:=⟨e,h1,rfl⟩
   obtain⟨y,f,i⟩:=(c.mh hq).1 hE
   have l:=rH (oS c.cQ (c.has hq f) i)
   obtain⟨k,hk⟩:∃ k:Nat,e.sym=k:=⟨e.sym.toNat,by omega⟩
   rw[hk,sX (by omega)] at d
   subst d
   exact⟨by omega,by rw[<-hk];exact hE⟩
  .rintro⟨h1,e,b,d⟩
   exact⟨e,b,by omega,by rw[d,sX (by omega)]⟩
theorem Ej (f:cq g a) {p y:Nat} {B:Int} (_:ez a p (-1 - B)):y∈oL g a ((p:Int),B)↔∃ C:Int,0<=C/\(au g false).getD C.toNat false=true/\ez a (eT a p (-1 - B)) (-1 - C)/\(bj a)[y]?=some ((eT a p (-1 - B):Int),C):=by
 unfold oL vw
 simp only[aaN,aaM,abj,aaB,aaE]
 constructor
 .rintro⟨e,⟨h1,c,b⟩,rfl⟩
  have hE:ez a (eT a p (-1 - B)) (-1 - (-1 - e.sym)):=⟨e,h1,by omega⟩
  exact⟨-1 - e.sym,by omega,b,hE,kV (dL.2 ⟨by omega,hE⟩)⟩
 .rintro⟨C,h1,c,⟨e,b,d⟩,h⟩
  refine⟨e,⟨b,by omega,by rw[d,show -1 - (-1 - C)=C by omega];exact c⟩,?_⟩
  rw[d,show -1 - (-1 - C)=C by omega]
  exact Ku (By f) h
theorem M1 (c:cq g a) {x:Nat} (d:x < (bj a).length):∀ y∈oL g a (dK a x),y < (bj a).length:=λy b=>by
 have e:(bj a)[x]?=some (dK a x):=getD_some d
 have hm:=aax e
 obtain⟨p,hp⟩:=vi hm
 rw[hp] at hm b
 obtain⟨_,_,_,_,h⟩:=(Ej c (dL.1 hm).2).1 b
 exact(aaG.1 h).1
theorem Tx (e:cq g a) {x t:Nat} {p:Nat} {B:Int} (c:(bj a)[x]?=some ((p:Int),B)):nt (λx=>oL g a (dK a x)) (λx=>tH g a (dK a x)) x t↔qk g a p B t:=by
 have b:∀ {x:Nat} {y:Int × Int},(bj a)[x]?=some y->dK a x=y:=λ{x y} h=>by
  rw[dK,aaq,h];rfl
 constructor
 .rintro⟨w,hr,hw⟩
  induction hr generalizing p B with
  | refl =>
   have he:=(dL.1 (aax c)).2
   simp only at hw
   rw[b c] at hw
   rcases (DR e he).1 hw with ⟨rfl,rfl,rfl⟩ | ⟨h1,d⟩
   .exact .fin
   .exact .term h1 d
  | @step x y w j hr f =>
   have he:=(dL.1 (aax c)).2
   rw[b c] at j
   obtain⟨C,h1,d,i,k⟩:=(Ej e he).1 j
   exact .null h1 i d (f k hw)
 .intro h
  induction h generalizing x with
  | fin =>
   have he:=(dL.1 (aax c)).2
   exact⟨x,.refl,by simp only;rw[b c];exact(DR e he).2 (.inl ⟨rfl,rfl,rfl⟩)⟩
  | @term p B t h1 d =>
   have he:=(dL.1 (aax c)).2
   exact⟨x,.refl,by simp only;rw[b c];exact(DR e he).2 (.inr ⟨h1,d⟩)⟩
  | @null p B C t h1 d i k f =>
   have he:=(dL.1 (aax c)).2
   have hm:=kV (dL.2 ⟨h1,d⟩)
   obtain⟨w,l,k2⟩:=f hm
   exact⟨w,.step (by rw[b c];exact(Ej e he).2 ⟨C,h1,i,d,hm⟩) l,k2⟩
end
def jn (l:List UInt8):Value:=.string ⟨l.toArray⟩
theorem LH {a b:List UInt8} : ((⟨a.toArray⟩:ByteArray) == ⟨b.toArray⟩)=(a == b):=by
 show (a.toArray == b.toArray)=_
 simp
theorem Ly {P:Program} {kt:TypeId} (h:P.underlying kt=some .string):Em P kt jn where
 ty:=⟨_,h,λa b=>by simp only[Instr.sameNow,jn,LH],λa e=>yO h trivial e 9999 _⟩
 bits:=λa b c=>by
  have:a=b:=by simpa using c
  subst this
  show ((⟨a.toArray⟩:ByteArray) == ⟨a.toArray⟩)=true
  rw[LH];simp
def rP (l:List aA):List Int:=l.flatMap λx=>[x.ax+1,x.dot]
theorem Vr (l:List aA):(rP l).length=2 * l.length:=by
 induction l with
 | nil=>rfl
 | cons x l a=>simp only[rP,List.flatMap_cons,abd,aaK,aa2] at a ⊢;omega
theorem Fh:∀ l:List aA,mE ((rP l).map λn=>[gy n])=some (gV l)
 | []=>rfl
 | x :: l=>by
  have a:=Fh l
  simp only[rP,gV,List.flatMap_cons,aa9,abF,aaW,mE] at a ⊢
  rw[a];rfl
theorem Ww {x:Int} (h1:0<=x) (c:x < 256):IntKind.wrap .u8 x=x:=by
 unfold IntKind.wrap
 have a:(2:Int) ^ IntKind.u8.bits=256:=by rfl
 have b:IntKind.u8.signed=false:=by rfl
 simp only[a,b,ab8,aaU,if_false]
 omega
theorem Yg {P:Program} {T:Env} {H:View} {K:V->View->Prop} {w:cO (T,H,K)} {t e d ty:TypeId} {x:Operand} {u:V} {xs:List (List V)} {rd:List Nat} {l:List UInt8} {k:Nat} (hu:P.underlying t=some (.slice e)) (he:P.underlying e=some (.int .u8)) (hd:P.underlying d=some .string)
  (a:ev T x=u) (hl:bQ H u=some (xs,rd)) (b:cU u=some k) (c:mE xs=some l) (hk:K (.val (jn l)) H):km P (.convert t d x) ty T H K w:=by
 intro n _
 have f:mj P t d=true:=by simp[mj,hu]
 refine⟨.val (jn l),.none,rd,?_,hk⟩
 simp only[sI,cD,oper]
 rw[aaw f,a]
 simp[oM,hu,he,hd,hl,b,c,jn]
def xV:SC :=
 ae [ab [aQ 15 .lss 14 13],bS 15 (.exit 0),.block 1 (ae [ab [aI 16 2 12 14,aY 17 2 16,((some 7),.op (.alloc [(.val (.int .i64 0)),(.val (.int .i64 0))])),bZ 2 7 17],ab [aY 19 4 2,aY 20 2 7,bm 21 50 [19,20],aa 18 21,eP 22 0 18,eP 23 1 18,aa 8 22,aa 9 23],ab [aa 24 9],bf 24 (ae [ab [aY 25 4 2,aa 26 8,bm 27 111 [25,26],aa 10 27],ab [aa 28 5,aa 29 10,aa 30 5,aa 31 10,((some 32),.op (.old (.lookup 98 (.tmp 30) (.tmp 31) false) 27)),ao 33 0 7,aj 34 33,ao 35 1 7,aj 36 35,aF 37 .add 36 1,((some 38),.op (.build [(.val (.int .i64 0)),(.val (.int .i64 0))] [(0,1,(.tmp 34)),(1,1,(.tmp 37))])),((some 39),.op (.bW 1 2 [(.val (.int .i64 0)),(.val (.int .i64 0))] [(0,(.tmp 38))])),gx 40 2 16 32 39,(none,.op (.old (.mapUpdate 98 (.tmp 28) (.tmp 29) (.tmp 40)) 0))]])]),ab [aF 41 .add 14 1,aa 14 41]]
def A6:SF:=⟨ae [ab [cy 2 0,((some 4),.op (.eF (.val (.val (.map none)))))],ab [((some 11),.op (.p9)),aa 5 11],ae [ab [aa 12 1,aM 13 12,aT 14 0],bX 0 xV],ab [aa 42 5,aa 4 42],.ret],
 [.tmp 4],43⟩
theorem F9:aO Tryz.prog 63 [2]=some A6:=by kernel_rfl
def A7:SC :=
 ae [ab [aQ 9 .lss 8 7],bS 9 (.exit 0),.block 1 (ae [ab [aI 10 2 6 8,aY 11 2 10,((some 5),.op (.alloc [(.val (.int .i64 0)),(.val (.int .i64 0))])),bZ 2 5 11],ab [aa 12 3,ao 13 0 5,aj 14 13,aF 15 .add 14 1,((some 16),.op (.conv .u8 (.tmp 15))),ao 17 1 5,aj 18 17,((some 19),.op (.conv .u8 (.tmp 18))),((some 20),.op (.bW 2 1 [(.val (.int .u8 0))] [(0,(.tmp 16)),(1,(.tmp 19))])),gx 21 1 1 12 20,aa 3 21]]),ab [aF 22 .add 8 1,aa 8 22]]
def Ff:SF:=⟨ae [.region false [⟨none,[((some 2),.op (.eF (.val (.val (.string ⟨#[]⟩)))))]⟩],ab [cT 3 1],ae [ab [aa 6 0,aM 7 6,aT 8 0],bX 0 A7],ab [aa 23 3,((some 24),.op (.old (.convert 91 9 (.tmp 23)) 9)),aa 2 24],.ret],
 [.tmp 2],25⟩
theorem Jg:aO Tryz.prog 62 []=some Ff:=by kernel_rfl
theorem Kb (g:ai) (J:g.dM) (l:List aA) (hl:∀ x∈l,cG g x) (B:l.length<=10000) (u:V) (H:View) (K:ba H u 2 (aV l)):av Tryz.prog 62 [u] H λr H'=>r=.val (jn (gV l))/\∀ id,H id≠.dead->H' id=H id:=by
 refine av.of mixed Jg ?_
 have hlen:cU u=some l.length:=by rw[K.len,bI]
 have L:=J.rules
 simp(disch:=omega)only[↓wr,seval,wq,Ff,hlen]
 refine aS.up l.length (λi T H'=>∃ b:V,ba H' b 1 ((rP (l.take i)).map λn=>[gy n])/\dI H H' b/\T 3=b/\T 6=u/\T 7=gi l.length/\T 8=gi i) ⟨.emp 1,.nil,.emp,rfl,rfl,rfl,rfl⟩ ?_
 rintro i k T H' hk ⟨b,v,w,t3,t6,t7,t8⟩
 simp(disch:=omega)only[↓wr,seval,wq,A7,t3,t6,t7,t8]
 apply ah.dec<;>intro M
 .have C:l[i]?=some (l[i]'(by omega)):=aar (by omega)
  have f:=hl _ (aaC (show i < l.length by omega))
  have z:l.take (i+1)=l.take i ++ [l[i]'(by omega)]:=by rw[aaQ,C];rfl
  generalize l[i]'(by omega)=x at C f z
  have N:=fy J f.1
  have O:=f.1
  have P:=f.2
  obtain⟨id,hu,a⟩:=K.sl (by rw[bI];omega)
  have A:H' id=.arr 2 (aV l):=by rw[(w id (by rw[a];simp)).1,a]
  rw[bI] at hu
  subst hu
  have D:=Vr (l.take i)
  rw[abc] at D
  simp(disch:=omega)only[↓wr,seval,wq,t3,t6,t7,t8,A,ta C,Ww (x:=x.ax+1) (by omega) (by omega),Ww (x:=x.dot) (by omega) (by omega)]
  refine⟨by omega,by rw[bI];omega,?_⟩
  intro q hq o E
  obtain⟨F,p⟩:=df E (by simp)
  rw[aat F] at p
  have G:∀ j,H j≠.dead->j≠q/\j≠o:=λj c=>by
   have h1:=(w j c).1
   exact⟨λe=>c (by rw[e] at h1 ⊢;rw[<-h1,hq]),λe=>c (by rw[e] at h1 ⊢;rw[<-h1,p])⟩
  have I:∀ a0 h a2,ba (((H'.set q a0).set q h).set o a2) b 1 ((rP (l.take i)).map λn=>[gy n]):=λa0 h a2=>v.keep λid a=>by
   have h1:=(v.live a).1
   have s:id≠q:=by rintro rfl;rw[hq] at h1;simp at h1
   have t:id≠o:=by rintro rfl;rw[p] at h1;simp at h1
   simp[View.set,s,t]
  have m:∀ a0 h a2 j,H j≠.dead->(((H'.set q a0).set q h).set o a2) j=H j:=λa0 h a2 j c=>by
   obtain⟨s,t⟩:=G j c
   simp[View.set,s,t,(w j c).1]
  have d:∀ (a0 h:di) (s t:List V),bQ (((H'.set q a0).set q h).set o (.arr 1 [s,t])) (.sl o 0 2 1)=some ([s,t],[o]):=λa0 h s t=>by simp[bQ,View.set]
  simp(disch:=omega)only[↓wr,seval,wq,d,t3]
  refine gO (I _ _ _) (by simp[aR]) (by unfold aD;simp;omega) (by unfold aD;simp;omega) ?_
  intro Q W R S
  simp(disch:=omega)only[↓wr,seval,wq,t6,t7,t8]
  refine aC hk (by omega) ⟨Q,?_,λj c=>?_,rfl,t6,t7,rfl⟩
  .have:(rP (l.take (i+1))).map (λn=>[gy n])=(rP (l.take i)).map (λn=>[gy n]) ++ [[gy (x.ax+1)],[gy x.dot]]:=by
    rw[z];simp[rP]
   rw[this];exact R
  .obtain⟨U,k2⟩:=S j (by rw[m _ _ _ j c];exact c) (w j c).2
   exact⟨by rw[U,m _ _ _ j c],k2⟩
 .rw[aaJ (by omega)] at v
  simp(disch:=omega)only[↓wr,seval,wq,t3]
  have d:∃ rd,bQ H' b=some ((rP l).map (λn=>[gy n]),rd):=by
   rcases v with ⟨e,k,rfl⟩ | ⟨n,rfl,B⟩
   .exact⟨[],by rw[e];rfl⟩
   .rcases hq:(rP l).map (λn=>[gy n]) with _ | ⟨y,ys⟩
    .exact⟨[],by simp[bQ]⟩
    .rw[hq] at B
     exact⟨[n],by
      have:=ud (H:=H') n 0 ys.length 1 1 (y :: ys) B (by simp)
      rw[aaK,this];simp⟩
  obtain⟨rd,d⟩:=d
  refine Yg (u:=b) (xs:=(rP l).map λn=>[gy n]) (rd:=rd) (k:=((rP l).map λn=>[gy n]).length) (l:=gV l) Tryz.underlying91 Tryz.underlying5 Tryz.underlying9 (by simp(disch:=omega)only[↓wr,seval,wq];exact t3) d v.len (Fh l) ?_
  simp(disch:=omega)only[↓wr,seval,wq]
  exact λid a=>(w id a).1
theorem Bq (g:ai) (p:List aA) (y:aA) (s:Int):bA g (p ++ [y]) s=if bp g y=(s,true) then bA g p s ++ [⟨y.ax,y.dot+1⟩] else bA g p s:=by
 unfold bA
 rw[abN,aaS]
 split
 .rename_i h;simp[h]
 .rename_i h;simp[h]
def j9 (g:ai) (p:List aA) (A:bY Int):List cx:=A.map λx=>(x.2.1,2,aV (bA g p (bh g x.1.toNat)))
structure vU (g:ai) (p:List aA) (H0 H:View) (q:Nat) (A:bY Int):Prop where
 mp:∃ c,H q=.map (cI (Value.int .i64) A) c
 nd:(A.map (·.1)).Nodup
 own:bk H (j9 g p A)
 ne:∀ x∈A,0<=x.1/\bA g p (bh g x.1.toNat)≠[]
 all:∀ k:Nat,bA g p (bh g k)≠[]->((k:Nat):Int)∈A.map (·.1)
 old:∀ id,H0 id≠.dead->H id=H0 id
 q0:H0 q=.dead
 new:∀ x∈A,∀ id,owner x.2.1=some id->H0 id=.dead
theorem getM_none {A:bY Int} {k:Int} : getM A k=none↔k ∉ A.map (·.1):=by
 induction A with
 | nil=>simp[getM]
 | cons x A a =>
  unfold getM at a ⊢
  rw[acf]
  by_cases h:k=x.1
  .simp[h]
  .simp only[beq_eq_false_iff_ne.2 h,aaW,aaI,not_or]
   rw[a]
   simp[h]
theorem zq {A:bY Int} {k:Int} {v:V} (h:getM A k=some v):∃ a d b,A=a ++ (k,v,b) :: d/\k ∉ a.map (·.1)/\∀ v' c,bN k v' c A=a ++ (k,v',b) :: d:=by
 induction A with
 | nil=>simp[getM] at h
 | cons x A f =>
  unfold getM at h f
  rw[acf] at h
  by_cases e:k=x.1
  .simp only[e,ab1,aaz,aau] at h
   refine⟨[],A,x.2.2,by rw[e,<-h];rfl,by simp,λv' c=>?_⟩
   rw[bN,e,ab1,aaw rfl];rfl
  .rw[beq_eq_false_iff_ne.2 e] at h
   obtain⟨a,d,b,rfl,g,i⟩:=f h
   refine⟨x :: a,d,b,rfl,by simp only[aaW,aaI,not_or];exact⟨e,g⟩,λv' c=>?_⟩
   rw[bN,beq_eq_false_iff_ne.2 e,i];rfl
theorem VA {A:bY Int} {k:Int} (h:k ∉ A.map (·.1)) (v:V) (c:Nat):bN k v c A=A ++ [(k,v,c)]:=by
 induction A with
 | nil=>rfl
 | cons x A a =>
  simp only[aaW,aaI,not_or] at h
  rw[bN,beq_eq_false_iff_ne.2 h.1,a h.2];rfl
theorem vU.skip {g:ai} {p:List aA} {H0 H:View} {q:Nat} {A:bY Int} (h:vU g p H0 H q A) {y:aA} (a:(bp g y).2=false):vU g (p ++ [y]) H0 H q A:=by
 have e:∀ s,bA g (p ++ [y]) s=bA g p s:=λs=>by rw[Bq,aat (λh=>by rw[h] at a;simp at a)]
 have b:j9 g (p ++ [y]) A=j9 g p A:=by simp only[j9,e]
 exact⟨h.mp,h.nd,by rw[b];exact h.own,λx c=>by rw[e];exact h.ne x c,λk hk=>by rw[e] at hk;exact h.all k hk,h.old,h.q0,h.new⟩
theorem vU.val {g:ai} {p:List aA} {H0 H:View} {q:Nat} {A:bY Int} (h:vU g p H0 H q A) (r:Nat):ba H ((getM A r).getD (.emp 1)) 2 (aV (bA g p (bh g r))):=by
 cases c:getM A r with
 | none =>
  have d:=getM_none.1 c
  have:bA g p (bh g r)=[]:=abB λa=>d (h.all r a)
  rw[this];exact .nil
 | some v =>
  obtain⟨e,f,b,rfl,_,_⟩:=zq c
  have:=h.own.1 (v,2,aV (bA g p (bh g r))) (by simp[j9])
  exact this
theorem vU.put {g:ai} {p:List aA} {H0 H:View} {q:Nat} {A:bY Int} (h:vU g p H0 H q A) {y:aA} {r:Nat} (T:bp g y=(bh g r,true)) {H1:View} {v':V} (U:ba H1 v' 2 (aV (bA g p (bh g r) ++ [⟨y.ax,y.dot+1⟩]))) (w:Left H H1 ((getM A r).getD (.emp 1)) v') (c B:Nat) :
  vU g (p ++ [y]) H0 (H1.set q (.map (cI (Value.int .i64) (bN (r:Int) v' c A)) B)) q (bN (r:Int) v' c A):=by
 obtain⟨c0,hq⟩:=h.mp
 have hr:bA g (p ++ [y]) (bh g r)=bA g p (bh g r) ++ [⟨y.ax,y.dot+1⟩]:=by rw[Bq,aaw T]
 have i:∀ x:Int × V × Nat,0<=x.1->x.1≠r->bA g (p ++ [y]) (bh g x.1.toNat)=bA g p (bh g x.1.toNat):=λx O d=>by
  rw[Bq,aat]
  intro e
  rw[T] at e
  simp only[aay,and_true] at e
  have h1:=zU g r
  rw[e,zU] at h1
  omega
 have C:owner ((getM A r).getD (.emp 1))≠some q:=λe=>by
  have:=((h.val r).live e).1
  rw[hq] at this;simp at this
 have D:H1 q≠.dead/\owner v'≠some q:=by
  obtain⟨Y,k2⟩:=w q (by rw[hq];simp) C
  exact⟨by rw[Y,hq];simp,k2⟩
 have hold:∀ id,H0 id≠.dead->id≠q/\owner ((getM A r).getD (.emp 1))≠some id:=λid f=>by
  refine⟨λe=>f (by rw[e];exact h.q0),λe=>?_⟩
  cases t:getM A r with
  | none=>rw[t] at e;simp[owner] at e
  | some v =>
   rw[t] at e
   obtain⟨s,l,b,rfl,_,_⟩:=zq t
   exact f (h.new (r,v,b) (by simp) id e)
 have m:∀ id,H0 id≠.dead->(H1.set q (.map (cI (Value.int .i64) (bN (r:Int) v' c A)) B)) id=H0 id:=λid f=>by
  simp only[View.set]
  rw[aat (hold id f).1,(w id (by rw[h.old id f];exact f) (hold id f).2).1,h.old id f]
 have E:∀ id,owner v'=some id->H0 id=.dead:=λid e=>abK λf=>(w id (by rw[h.old id f];exact f) (hold id f).2).2 e
 have u:∀ {L:List cx},bk H1 L->(∀ x∈L,owner x.1≠some q)->bk (H1.set q (.map (cI (Value.int .i64) (bN (r:Int) v' c A)) B)) L:=λW d=>⟨λx F=>(W.1 x F).other (d x F),W.2⟩
 have j:∀ x∈A,owner x.2.1≠some q:=λx d=>h.own.CT hq _ (aaM.2 ⟨x,d,rfl⟩)
 cases t:getM A r with
 | none =>
  have N:=getM_none.1 t
  rw[t] at w
  rw[VA N] at *
  have P:j9 g (p ++ [y]) (A ++ [((r:Int),v',c)])=j9 g p A ++ [(v',2,aV (bA g p (bh g r) ++ [⟨y.ax,y.dot+1⟩]))]:=by
   simp only[j9,aaS,aaW,ab3,aaN,hr]
   congr 1
   refine acw λx d=>?_
   rw[i x (h.ne x d).1 (λe=>N (aaM.2 ⟨x,d,e⟩))]
  refine⟨⟨B,by simp[View.set]⟩,?_,?_,λx d=>?_,λk hk=>?_,m,h.q0,λx d id e=>?_⟩
  .rw[aaS,abr]
   refine⟨h.nd,by simp,λa Z b X e=>?_⟩
   simp at X;subst X;subst e;exact N Z
  .rw[P]
   have Q:bk H1 ((v',2,aV (bA g p (bh g r) ++ [⟨y.ax,y.dot+1⟩])) :: j9 g p A):=(h.own.emp (k:=1) (sz:=2)).left (by simpa using U) w
   refine u (Q.perm (List.perm_append_comm (l₁:=[_]))) λx d=>?_
   rcases aaZ.1 d with d | d
   .obtain⟨z,G,rfl⟩:=aaM.1 d
    exact j z G
   .simp at d;subst d;exact D.2
  .rcases aaZ.1 d with d | d
   .rw[i x (h.ne x d).1 (λe=>N (aaM.2 ⟨x,d,e⟩))];exact h.ne x d
   .simp at d;subst d;simp[hr]
  .rw[aaS,aaZ]
   by_cases e:k=r
   .right;simp[e]
   .left
    refine h.all k ?_
    have:=i ((k:Int),.any,0) (by simp) (by simp only;omega)
    simp only[aaN] at this
    rw[<-this];exact hk
  .rcases aaZ.1 d with d | d
   .exact h.new x d id e
   .simp at d;subst d;exact E id e
 | some v =>
  obtain⟨s,l,b,rfl,R,I⟩:=zq t
  rw[t] at w
  rw[I] at *
  have J:=h.nd
  rw[aaS,aaW,abr] at J
  have S:(r:Int) ∉ l.map (·.1):=(abo.1 J.2.1).1
  have K:∀ x∈s,x.1≠r:=λx d e=>R (aaM.2 ⟨x,d,e⟩)
  have M:∀ x∈l,x.1≠r:=λx d e=>S (aaM.2 ⟨x,d,e⟩)
  have n:∀ x∈s,x∈s ++ ((r:Int),v,b) :: l:=λx d=>abZ _ d
  have o:∀ x∈l,x∈s ++ ((r:Int),v,b) :: l:=λx d=>ab4 _ (aaO _ d)
  have P:j9 g (p ++ [y]) (s ++ ((r:Int),v',b) :: l)=j9 g p s ++ (v',2,aV (bA g p (bh g r) ++ [⟨y.ax,y.dot+1⟩])) :: j9 g p l:=by
   simp only[j9,aaS,aaW,aaN,hr]
   congr 1
   .refine acw λx d=>?_
    rw[i x (h.ne x (n x d)).1 (K x d)]
   .congr 1
    refine acw λx d=>?_
    rw[i x (h.ne x (o x d)).1 (M x d)]
  have e0:j9 g p (s ++ ((r:Int),v,b) :: l)=j9 g p s ++ (v,2,aV (bA g p (bh g r))) :: j9 g p l:=by
   simp only[j9,aaS,aaW,aaN]
  refine⟨⟨B,by simp[View.set]⟩,by simpa using h.nd,?_,λx d=>?_,λk hk=>?_,m,h.q0,λx d id e=>?_⟩
  .rw[P]
   have O:=h.own
   rw[e0] at O
   have Q:bk H1 ((v',2,aV (bA g p (bh g r) ++ [⟨y.ax,y.dot+1⟩])) :: (j9 g p s ++ j9 g p l)):=(O.perm aba).left U w
   refine u (Q.perm aba.symm) λx d=>?_
   rcases aaZ.1 d with d | d
   .obtain⟨z,G,rfl⟩:=aaM.1 d
    exact j z (n z G)
   .rcases aaI.1 d with rfl | d
    .exact D.2
    .obtain⟨z,G,rfl⟩:=aaM.1 d
     exact j z (o z G)
  .rcases aaZ.1 d with d | d
   .rw[i x (h.ne x (n x d)).1 (K x d)];exact h.ne x (n x d)
   .rcases aaI.1 d with rfl | d
    .simp[hr]
    .rw[i x (h.ne x (o x d)).1 (M x d)];exact h.ne x (o x d)
  .by_cases e:k=r
   .subst e;simp
   .have:=i ((k:Int),.any,0) (by simp) (by simp only;omega)
    simp only[aaN] at this
    rw[this] at hk
    have:=h.all k hk
    simpa using this
  .rcases aaZ.1 d with d | d
   .exact h.new x (n x d) id e
   .rcases aaI.1 d with rfl | d
    .exact E id e
    .exact h.new x (o x d) id e
theorem vU.fresh {g:ai} {p:List aA} {H0 H:View} {q:Nat} {A:bY Int} (h:vU g p H0 H q A) {n:Nat} (b:H n=.dead) (o:di):vU g p H0 (H.set n o) q A:=by
 obtain⟨c,hq⟩:=h.mp
 have d:q≠n:=by rintro rfl;rw[b] at hq;simp at hq
 refine⟨⟨c,by simp[View.set,d,hq]⟩,h.nd,h.own.fresh b,h.ne,h.all,λid a=>?_,h.q0,h.new⟩
 have e:id≠n:=by rintro rfl;rw[h.old id a] at b;exact a b
 simp[View.set,e,h.old id a]
theorem Vn (g:ai) (w:g.dM) (l:List aA) (hl:∀ x∈l,cG g x) (L:l.length<=10000) (u:V) (H:View) (Z:ba H u 2 (aV l)):av Tryz.prog 63 [.agg (ag g),u] H λr H'=>∃ q A,r=.mp q/\vU g l H H' q A:=by
 refine av.of mixed F9 ?_
 have hlen:cU u=some l.length:=by rw[Z.len,bI]
 have hT:=w.af
 have hN:=w.ak
 simp(disch:=omega)only[↓wr,seval,wq,A6,ag,encS,hlen]
 intro q hq
 have M:vU g [] H (H.set q (.map [] 0)) q []:=⟨⟨0,by simp[View.set,cI]⟩,by simp,⟨by simp[j9],by simp[j9]⟩,by simp,λk hk=>absurd rfl hk,λid j=>by
  have:id≠q:=by rintro rfl;exact j hq
  simp[View.set,this],hq,by simp⟩
 generalize H.set q (.map [] 0)=H1 at M
 try simp(disch:=omega)only[↓wr,seval,wq]
 refine aS.up l.length (λi T H'=>∃ A,vU g (l.take i) H H' q A/\T 2=.aH (ag g) 0/\T 5=.mp q/\T 12=u/\T 13=gi l.length/\T 14=gi i) ⟨[],M,rfl,rfl,rfl,rfl,rfl⟩ ?_
 clear M hq
 rintro i k T H' hk ⟨A,D,t2,t5,t12,t13,t14⟩
 simp(disch:=omega)only[↓wr,seval,wq,xV,t2,t5,t12,t13,t14]
 apply ah.dec<;>intro hc
 .have N:l[i]?=some (l[i]'(by omega)):=aar (by omega)
  have a:=hl _ (aaC (show i < l.length by omega))
  have B:l.take (i+1)=l.take i ++ [l[i]'(by omega)]:=by rw[aaQ,N];rfl
  generalize l[i]'(by omega)=x at N a B
  have h1:=Lj g w x a
  cases b:bp g x with
  | mk s O =>
  have P:=ue w a b
  rw[b] at h1
  have aq:=fy w a.1
  have ar:=a.2
  obtain⟨id,hu,j⟩:=Z.sl (by rw[bI];omega)
  have p:H' id=.arr 2 (aV l):=by rw[D.old id (by rw[j];simp),j]
  rw[bI] at hu
  subst hu
  simp only[ag,encS,bF] at h1
  simp(disch:=omega)only[↓wr,seval,wq,t2,t5,t12,t13,t14,p,ta N]
  refine⟨by omega,by rw[bI];omega,?_⟩
  intro E F
  rw[set_set]
  have d:(H'.set E (.arr 2 [[gi x.ax,gi x.dot]])) E=.arr 2 [[gi x.ax,gi x.dot]]:=by simp[View.set]
  have f:=D.fresh F (.arr 2 [[gi x.ax,gi x.dot]])
  generalize H'.set E (.arr 2 [[gi x.ax,gi x.dot]])=Q at d f
  clear D F p
  try simp(disch:=omega)only[↓wr,seval,wq,t2,t5,d,ag,encS]
  refine ay.pure h1 ?_
  cases O with
  | false =>
   simp(disch:=omega)only[↓wr,seval,wq,t2,t5,t12,t13,t14]
   exact aC hk (by omega) ⟨A,by rw[B];exact f.skip (by rw[b]),t2,t5,t12,t13,rfl⟩
  | true =>
  have hh:=oS w a b
  obtain⟨r1,r2⟩:=rH hh
  obtain⟨r3,r4⟩:=Kx r1
  obtain⟨r,hr⟩:∃ r:Nat,kW g s=r:=⟨(kW g s).toNat,by omega⟩
  rw[hr,aaN] at r4
  have R:=V4 g w s P
  rw[hr] at R
  simp only[ag,encS] at R
  simp(disch:=omega)only[↓wr,seval,wq,t2,t5,ag,encS]
  refine ay.pure R ?_
  obtain⟨c,S⟩:=f.mp
  simp(disch:=omega)only[↓wr,seval,wq,t5]
  refine Cx (kt:=3) (et:=27) (z:=.emp 1) (by kernel_rfl) (by kernel_rfl) (mA .i64 Tryz.underlying3) (id:=q) (c:=c) (m:=A) (k:=(r:Int)) (by simp(disch:=omega)only[↓wr,seval,wq]) (by simp(disch:=omega)only[↓wr,seval,wq]) S ?_
  have a1:=f.val r
  have an:∀ n o,Q n=.dead->(Q.set n o) E=.arr 2 [[gi x.ax,gi x.dot]]:=λn o L=>by
   have:E≠n:=by rintro rfl;rw[d] at L;simp at L
   simp[View.set,this,d]
  try simp(disch:=omega)only[↓wr,seval,wq,d]
  intro U W
  have C:=f.fresh W (.arr 2 [[gi x.ax,gi (x.dot+1)]])
  have t:=C.val r
  have X:bQ (Q.set U (.arr 2 [[gi x.ax,gi (x.dot+1)]])) (.sl U 0 1 2)=some ([[gi x.ax,gi (x.dot+1)]],[U]):=by simp[bQ,View.set]
  simp(disch:=omega)only[↓wr,seval,wq,X]
  have Y:=vL (g:=g) (l:=l.take i) (s:=bh g r)
  rw[abc] at Y
  refine gO t (by simp[aR]) (by unfold aD;rw[bI];simp;omega) (by unfold aD;rw[bI];simp;omega) ?_
  intro v' H6 o6 l6
  obtain⟨K,h⟩:=C.mp
  have G:owner ((getM A (r:Int)).getD (.emp 1))≠some q:=λe=>by
   have:=(t.live e).1
   rw[h] at this;simp at this
  have I:H6 q=.map (cI (Value.int .i64) A) K:=by
   rw[(l6 q (by rw[h];simp) G).1,h]
  simp(disch:=omega)only[↓wr,seval,wq,t5]
  refine ye (kt:=3) (et:=27) (by kernel_rfl) (mA .i64 Tryz.underlying3) (id:=q) (c:=K) (m:=A) (k:=(r:Int)) (v:=v') (by simp(disch:=omega)only[↓wr,seval,wq]) (by simp(disch:=omega)only[↓wr,seval,wq]) (by simp(disch:=omega)only[↓wr,seval,wq]) I ?_
  intro c'
  simp(disch:=omega)only[↓wr,seval,wq,t2,t5,t12,t13,t14]
  have J:=C.put (y:=x) (r:=r) (by rw[b,r4]) (H1:=H6) (v':=v') (by
   have e:aV (bA g (l.take i) (bh g r) ++ [⟨x.ax,x.dot+1⟩])=aV (bA g (l.take i) (bh g r)) ++ [[gi x.ax,gi (x.dot+1)]]:=by simp[aV,bF]
   rw[e];exact o6) l6 K c'
  exact aC hk (by omega) ⟨bN (r:Int) v' K A,by rw[B];exact J,t2,t5,t12,t13,rfl⟩
 .rw[aaJ (by omega)] at D
  simp(disch:=omega)only[↓wr,seval,wq,t5]
  exact⟨q,A,rfl,D⟩
end Gv
