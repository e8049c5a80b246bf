/-
  Part 17 of the proof: what the machine does and what the functions answer.
  Conditions: those that each lemma names.
-/
import Derived.Test.YtiophifnkakjgaaGreatSGzC1P
set_option linter.unusedSimpArgs false
set_option linter.unusedVariables false
set_option maxRecDepth 100000
set_option maxHeartbeats 20000000
namespace Gv
open Go Go.Proofs
def Bu:SF:=⟨ae [ab [cF 2 0,bT 4 1],ae [ab [aa 5 1,aF 6 .eql 5 (-1)],bb 6 (ae [ab [ao 7 3 2,ak 8 7,((some 9),.op (.arith .sub (.val (.val (.int .i64 (-1)))) (.tmp 8))),((some 10),.op (.bJ 1 1 [(.val (.int .i64 0))] [(0,(.tmp 9))])),aa 4 10],.ret])],ab [ao 11 2 2,ak 12 11,aa 13 1,aO 14 3 12 13,ao 15 1 14,ak 16 15,aa 4 16],.ret],
 [.tmp 4],17⟩
theorem D0:aP Tryz.prog 244 [2]=some Bu:=by kernel_rfl
def CQ:SF:=⟨ae [ab [cF 2 0,cF 3 1,aR 4 0,bB 5 false],ae [ab [aZ 7 4 2,ao 8 0 3,ak 9 8,bk 10 244 [7,9],aa 6 10],ab [ao 11 1 3,ak 12 11,aa 13 6,aN 14 13,aQ 15 .lss 12 14],bb 15 (ae [ab [aa 16 6,ao 17 1 3,ak 18 17,aO 19 1 16 18,ak 20 19,aa 4 20,bB 5 true],.ret])],ab [aR 4 0,bB 5 false],.ret],
 [.tmp 4,.tmp 5],21⟩
theorem GC:aP Tryz.prog 187 [2,3]=some CQ:=by kernel_rfl
def CE:SF:=⟨ae [ab [cF 2 0,aR 4 0],ae [ab [aa 5 1,aF 6 .lss 5 0],bb 6 (ae [ab [ao 7 0 2,ak 8 7,aN 9 8,aF 10 .sub 9 1,aa 11 1,aQ 12 .sub 10 11,aa 4 12],.ret])],ab [aa 13 1,aa 4 13],.ret],
 [.tmp 4],14⟩
theorem Gl:aP Tryz.prog 188 [2]=some CE:=by kernel_rfl
def dt:SF:=⟨ae [ab [bT 2 1],ae [ab [aa 3 0,((some 4),.op (.nil true 0 (.tmp 3) (.val (.emp 1))))],bb 4 (ae [ab [bT 2 1],.ret])],ab [bT 5 2,aa 6 0,fD 7 2 16 5 6,aa 2 7],.ret],
 [.tmp 2],8⟩
theorem dN:aP Tryz.prog 189 []=some dt:=by kernel_rfl
def vt:SC :=
 ae [ab [aQ 54 .lss 53 52],bX 54 (.exit 2),.block 3 (ae [ab [aa 55 53,aO 56 3 51 53,aZ 57 3 56,((some 11),.op (.alloc [(.val (.int .i64 0)),(.emp 1),(.val (.int .i64 0))])),aa 10 55,cD 3 11 57],ab [ao 58 0 11,ak 59 58,aa 60 8,((some 61),.op (.arith .sub (.val (.val (.int .i64 (-1)))) (.tmp 60))),aQ 62 .eql 59 61],bb 62 (ab [aa 63 5,aa 64 10,((some 65),.op (.build [(.val (.int .i64 0)),(.val (.int .i64 0))] [(0,1,(.tmp 64))])),((some 66),.op (.bJ 1 2 [(.val (.int .i64 0)),(.val (.int .i64 0))] [(0,(.tmp 65))])),fD 67 2 16 63 66,aa 5 67])]),ab [aF 68 .add 53 1,aa 53 68]]
def uT:SC :=
 ae [ae [ab [aa 18 7,aa 19 5,aN 20 19,aQ 21 .lss 18 20],bX 21 (.exit 0)],.block 1 (ae [ab [aZ 25 4 2,aa 26 5,aa 27 7,aO 28 2 26 27,aZ 29 2 28,bk 30 187 [25,29],aa 24 30,dr 31 0 24,dr 32 1 24,aa 8 31,aa 9 32],ae [.region false [⟨none,[aa 33 9,c9 34 33,aa 35 34]⟩,⟨(some (35,false)),[aa 36 8,aF 37 .geq 36 0]⟩,⟨none,[cy 38 35 37,aa 39 38]⟩,⟨(some (39,false)),[aa 40 6,aa 41 8,((some 42),.op (.arith .sub (.val (.val (.int .i64 (-1)))) (.tmp 41))),aO 43 1 40 42,ak 44 43]⟩,⟨none,[cy 45 39 44]⟩],bb 45 (.exit 1)],ab [aa 46 6,aa 47 8,((some 48),.op (.arith .sub (.val (.val (.int .i64 (-1)))) (.tmp 47))),aO 49 1 46 48,(none,.op (.store 1 (.tmp 49) (.val (.val (.bool true)))))],ab [ao 50 2 2,ak 51 50,aN 52 51,aR 53 0],bZ 2 vt]),ab [aa 22 7,aF 23 .add 22 1,aa 7 23]]
def xM:SF:=⟨ae [ab [cF 2 0,bT 4 1],ab [aa 12 1,bk 13 189 [12],aa 5 13],ab [ao 14 1 2,ak 15 14,aN 16 15,((some 17),.op (.make 1 1 [(.val (.bool false))] (.tmp 16) (.tmp 16))),aa 6 17],ae [ab [aR 7 0],bZ 0 uT],ab [aa 69 5,bk 70 124 [69],aa 4 70],.ret],
 [.tmp 4],71⟩
theorem CC:aP Tryz.prog 123 [2]=some xM:=by kernel_rfl
theorem QG (g:af) (d : -100<=g.start/\g.start<=100) (r:Int) (hr : -1<=r/\r < (g.rules.length:Int)):az Tryz.prog 244 [.agg (ag g),gi r] (encI (aM g r)):=by
 refine az.of (by
  intro v a;simp at a
  rcases a with rfl | rfl
  .exact bL _ (cd g)
  .exact .val _) ?_
 refine aw.of mixed D0 ?_
 unfold aM
 simp(disch:=omega)only[↓wr,seval,wq,Bu,ag,encS]
 apply aj.eq<;>intro h1
 .simp(disch:=omega)only[↓wr,seval,wq,ag,encS]
  intro n
  rw[aaF h1]
  rintro c a
  refine cM.fr (kK (l:=[-1 - g.start]) (.inr ⟨n,rfl,?_⟩))
  rw[a];simp[View.set]
 .have b:g.rules[r.toNat]?=some (aA g r):=by unfold aA;exact getD_some (by omega)
  rw[aaD h1]
  generalize aA g r=R at b
  simp(disch:=omega)only[↓wr,seval,wq,ag,encS,aaE,b,aaH,bg]
  intro c _
  exact .tree _ (cx R.right)
theorem J4 (g:af) (c:g.cY) (x:ay) (b:cw g x):az Tryz.prog 187 [.agg (ag g),.agg (bu x)] (.bf [gi (aW g x).1,gb (aW g x).2]):=by
 have h1:=QG g (mN c) x.au b.1
 have d:=dS c b.1
 have e:=b.2
 refine az.tree (by
  intro v a;simp at a
  rcases a with rfl | rfl
  .exact bL _ (cd g)
  .exact bL _ λv a=>by simp[bu] at a;rcases a with rfl | rfl <;> exact .val _) (.bf _ λi hi=>by
   match i,hi with
   | 0,_=>exact .val _
   | 1,_=>exact .val _) λH=>?_
 refine aw.of mixed GC ?_
 simp only[ag,encS,encI] at h1
 unfold aW
 simp(disch:=omega)only[↓wr,seval,wq,CQ,ag,encS,bu]
 refine ax.pure h1 ?_
 generalize aM g x.au=R at e d ⊢
 simp(disch:=omega)only[↓wr,seval,wq,bu]
 apply aj.dec<;>intro f
 .have h:R[x.dot.toNat]?=some (R.getD x.dot.toNat 0):=getD_some (by omega)
  simp(disch:=omega)only[↓wr,seval,wq,bu,aaE,h,aaH]
  rw[aaD (by omega)]
 .simp(disch:=omega)only[↓wr,seval,wq]
  rw[aaF (by omega)]
theorem Ut (g:af) (b:g.cY) (s:Int) (c : -1000<=s/\s<=1000):az Tryz.prog 188 [.agg (ag g),gi s] (gi (nZ g s)):=by
 have d:=b.ai
 refine az.val (by
  intro v a;simp at a
  rcases a with rfl | rfl
  .exact bL _ (cd g)
  .exact .val _) λH=>?_
 refine aw.of mixed Gl ?_
 unfold nZ
 simp(disch:=omega)only[↓wr,seval,wq,CE,ag,encS]
 apply aj.dec<;>intro h1
 .simp(disch:=omega)only[↓wr,seval,wq,ag]
  rw[aaF h1]
 .simp(disch:=omega)only[↓wr,seval,wq]
  rw[aaD h1]
theorem bU.ZG {P:Program} {f:FuncId} {h:aE} {u:V} (hu:∀ Z μ hp x,aB Z μ hp u x->∃ a cap,x=.slice a 0 cap/\(a=none->cap=0)) (h1:bU P f [.emp 1] h (.emp 1) h) (n:bU P f [.emp 2] h (.emp 2) h) (o:bU P f [.eD] h (.emp 2) h):bU P f [u] h (.emp 0) h:=by
 refine⟨aaM _,λZ μ F w xs j hr d=>?_⟩
 obtain⟨p,q⟩:=j
 obtain⟨x,rfl⟩:∃ x,xs=[x]:=by
  match xs,p with
  | [x],_=>exact⟨x,rfl⟩
 have r:aB Z μ w.heap u x:=q 0 (by simp)
 have one:∀ v,aB Z μ w.heap v x->gL Z μ w.heap [v] [x]:=λv h=>⟨rfl,λi hi=>by
  simp at hi;subst hi;exact h⟩
 have b:∀ k,bU P f [if k=3 then .eD else .emp k] h (if k=3 then .emp 2 else .emp k) h->aB Z μ w.heap (if k=3 then .eD else .emp k) x->Calls P f [x].toArray w λe w'=>∃ x g μ',e=.returned x/\aB g μ' w'.heap (.emp 0) x/\iR g μ' w'.heap (cat h F)/\Ext Z μ w h.length g μ' w'/\(∀ id,id < h.length∨h.length<=id->μ' id=μ id):=by
  intro k hk s
  refine(hk.2 Z μ F w [x] (one _ s) hr d).mono ?_
  rintro e w' ⟨y,g,μ',rfl,l,rest⟩
  refine⟨y,g,μ',rfl,?_,rest⟩
  have:∀ m,aB g μ' w'.heap (.emp m) y->aB g μ' w'.heap (.emp 0) y:=λm h=>by
   cases h with | emp _ a _ _=>exact .emp 0 a (by simp) (by simp)
  split at l <;> exact this _ l
 obtain⟨a,cap,rfl,t⟩:=hu Z μ w.heap x r
 cases a with
 | none =>
  have:=t rfl
  subst this
  exact b 1 (by simpa using h1) (.emp 1 none (by simp) (by simp))
 | some a =>
  cases cap with
  | zero=>exact b 2 (by simpa using n) (.emp 2 (some a) (by simp) (by simp))
  | succ c=>exact b 3 (by simpa using o) (.eD a (c+1))
theorem TZ {Z:Nat->Prop} {μ:Mu} {hp:Array Obj} {k:Nat} {x:Value} (h:aB Z μ hp (.emp k) x):∃ a cap,x=.slice a 0 cap/\(a=none->cap=0):=by
 cases h with | emp _ a _ _=>exact⟨a,0,rfl,λ_=>rfl⟩
theorem QQ {Z:Nat->Prop} {μ:Mu} {hp:Array Obj} {id off esz:Nat} {x:Value} (h:aB Z μ hp (.sl id off 0 esz) x):∃ a cap,x=.slice a 0 cap/\(a=none->cap=0):=by
 rcases LY h with ⟨_,a,e⟩ | ⟨b,o0,cap,c,e,f,d,_⟩
 .exact⟨a,0,e,λ_=>rfl⟩
 .exact⟨_,cap,d,λh=>by simp at h⟩
theorem Mz (u:V) (hu:∀ Z μ hp x,aB Z μ hp u x->∃ a cap,x=.slice a 0 cap/\(a=none->cap=0)) (h:aE):bU Tryz.prog 189 [u] h (.emp 0) h:=by
 have hp:∀ v t,Tree v->Tree t->(∀ H,aw Tryz.prog 189 [v] H λr _=>r=t)->az Tryz.prog 189 [v] t:=λv t c d h=>az.tree (by intro x b;simp at b;subst b;exact c) d h
 have h1:=hp (.emp 1) (.emp 1) (.emp 1) (.emp 1) (λH=>by
  refine aw.of mixed dN ?_
  simp(disch:=omega)only[↓wr,seval,wq,dt])
 have e:=hp (.emp 2) (.emp 2) (.emp 2) (.emp 2) (λH=>by
  refine aw.of mixed dN ?_
  simp(disch:=omega)only[↓wr,seval,wq,dt,jZ,acv])
 have f:=hp .eD (.emp 2) .eD (.emp 2) (λH=>by
  refine aw.of mixed dN ?_
  simp(disch:=omega)only[↓wr,seval,wq,dt,r8,jZ,acv])
 exact bU.ZG hu (bU.gU h1 h) (bU.gU e h) (bU.gU f h)
theorem Pw (l:List ay) (d:l.length<=100000) (u:V) (H:View) (b:aT H u 2 (aV l)):aw Tryz.prog 189 [u] H λr H'=>aT H' r 2 (aV l)/\c8 H H' r:=by
 cases l with
 | nil =>
  refine⟨by kernel_rfl,?_⟩
  rintro h rfl
  refine⟨.emp 0,h,Mz u (λZ μ hp x c=>?_) h,.refl _,.nil,.emp⟩
  rcases b with ⟨_,k,rfl⟩ | ⟨n,rfl,_⟩
  .exact TZ c
  .exact QQ c
 | cons x r =>
  obtain⟨id,hu,a⟩:=b.sl (by rw[bG];simp)
  subst hu
  refine aw.of mixed dN ?_
  have he:=p0 (H:=H) id 0 r.length 2 2 (aV (x :: r)) a (by rw[bG];simp)
  rw[abP,aaS (by rw[bG];simp)] at he
  simp only[aaN] at d
  have hlen:(aV (x :: r)).length=r.length+1:=by rw[bG];rfl
  rw[hlen]
  simp(disch:=omega)only[↓wr,seval,wq,dt,he]
  refine gF (es:=[]) (.inl ⟨rfl,2,rfl⟩) (by simp[aV,bu,acg,aI]) (by unfold aC;rw[hlen];simp;omega) (by unfold aC;rw[hlen];simp;omega) ?_
  intro i m e f
  simp(disch:=omega)only[↓wr,seval,wq]
  refine⟨by simpa using e,λj g=>?_⟩
  exact f j g (by simp[owner])
def dW (ks:List Nat):List ay:=ks.map λ(k:Nat)=>(⟨k,0⟩:ay)
theorem A6 {a:List Nat} {n:Nat} (h:a.Nodup) (hk:∀ k∈a,k < n):a.length<=n:=by
 have:=oV a (List.range n) h λx b=>abA.2 (hk x b)
 simpa using this
theorem Rg {l:List Bool} {i:Nat} (h:i < l.length):(dU l).getD i []=[gb (l.getD i false)]:=by
 simp[aaA,h]
structure TP (g:af) (l:List ay) (H H':View) (i:Nat) (r su:V) (ks:List Nat) (seen:List Bool):Prop where
 own:bq H' [(r,2,aV (l ++ dW ks)),(su,1,dU seen)]
 f1:c8 H H' r
 f2:c8 H H' su
 nd:ks.Nodup
 kl:∀ k∈ks,k < g.rules.length
 sl:seen.length=g.al.length
 s1:∀ (n k:Nat) (R:aX),seen.getD n false=true->g.rules[k]?=some R->R.left=n->k∈ks
 s2:∀ (k:Nat) (R:aX),k∈ks->g.rules[k]?=some R->seen.getD R.left.toNat false=true
 cl:∀ x∈l ++ dW ks,lx g l x
 dn:∀ (j:Nat) (x:ay) (s:Int),j < i->(l ++ dW ks)[j]?=some x->aW g x=(s,true)->s < 0->seen.getD (-1 - s).toNat false=true
 il:i<=(l ++ dW ks).length
theorem TP.len {g:af} {l:List ay} {H H':View} {i:Nat} {r b:V} {a:List Nat} {seen:List Bool} (h:TP g l H H' i r b a seen):a.length<=g.rules.length/\(l ++ dW a).length=l.length+a.length:=by
 refine⟨A6 h.nd h.kl,by simp[dW]⟩
def AcJ (g:af) (l:List ay) (H:View) (m:Nat) (T:Env) (H':View):Prop:=∃ (i:Nat) (r su:V) (ks:List Nat) (seen:List Bool),m=l.length+g.rules.length - i/\TP g l H H' i r su ks seen/\T 2=.aL (ag g) 0/\T 5=r/\T 6=su/\T 7=gi i
theorem L8 (g:af) (X:g.cY) (l:List ay) (hl:∀ x∈l,cw g x) (P:l.length<=10000) (u:V) (H:View) (ho:aT H u 2 (aV l)):aw Tryz.prog 123 [.agg (ag g),u] H λr H'=>aT H' r 2 (aV (cJ g l))/\c8 H H' r:=by
 refine aw.of mixed CC ?_
 have cf:=X.rules
 have cg:=X.al
 simp(disch:=omega)only[↓wr,seval,wq,xM,ag,encS]
 refine ax.eM ((Pw l (by omega) u H ho).mono ?_)
 rintro r H1 ⟨o1,f1⟩
 simp(disch:=omega)only[↓wr,seval,wq,ag,encS]
 refine⟨⟨aaM _,by unfold aC;omega,by unfold aC;omega⟩,λY=>?_,λY q z=>?_⟩
 .exact absurd (by have:=X.sm;omega) (show ¬ g.al.length=0 by have:=X.sm;omega)
 have aq:TP g l H (H1.set q (.arr 1 (List.replicate g.al.length [gb false]))) 0 r (.sl q 0 g.al.length 1) [] (List.replicate g.al.length false):=by
  have e:List.replicate g.al.length [gb false]=dU (List.replicate g.al.length false):=by simp
  have b4:bq H1 [(r,2,aV l)]:=⟨λx C=>by simp at C;subst C;exact o1,by
   cases hr:owner r <;> simp[abZ,hr]⟩
  have b5:H q=.dead∨H q≠.dead:=by cases H q <;> simp
  have E:H q=.dead:=by
   rcases b5 with h | h
   .exact h
   .have:=(f1 q h).1;rw[z] at this;exact absurd this.symm h
  refine⟨?_,λid c=>?_,λid c=>?_,.nil,by simp,by simp,λn k R h=>?_,by simp,λx C=>.base (by simpa [dW] using C),λj x s h=>by omega,ab5 _⟩
  .have N:=(b4.new z 1 (List.replicate g.al.length [gb false])).perm (.swap _ _ _)
   rw[acf] at N
   rw[e] at N ⊢
   simpa [dW] using N
  .have Q:id≠q:=by rintro rfl;exact c E
   exact⟨by simp only[View.set];rw[aaD Q];exact(f1 id c).1,(f1 id c).2⟩
  .have Q:id≠q:=by rintro rfl;exact c E
   exact⟨by simp only[View.set];rw[aaD Q];exact(f1 id c).1,by simp[owner,Ne.symm Q]⟩
  .simp only[aaA,abV] at h
   split at h <;> simp at h
 generalize H1.set q (.arr 1 (List.replicate g.al.length [gb false]))=H2 at aq ⊢
 refine ba.intro (AcJ g l H) (l.length+g.rules.length) ⟨0,r,_,[],_,by omega,aq,rfl,rfl,rfl,rfl⟩ ?_
 clear aq o1 f1 z
 rintro m T H' ⟨i,r,J,w,seen,rfl,d,t2,t5,t6,t7⟩
 obtain⟨ch,cj⟩:=d.len
 have b7:cT r=some (l ++ dW w).length:=by rw[d.own.head.len,bG]
 simp(disch:=omega)only[↓wr,seval,wq,uT,t2,t5,t6,t7,b7]
 apply aj.dec<;>intro hc
 rotate_left
 ·
  have hi:i=(l ++ dW w).length:=by have:=d.il;omega
  simp(disch:=omega)only[↓wr,seval,wq,t5]
  refine ax.eM ((N6 (l ++ dW w) (by omega) r H' d.own.head).mono ?_)
  rintro S H3 ⟨k3,o3,e3⟩
  simp(disch:=omega)only[↓wr,seval,wq]
  have b8:cJ g l=Cj (l ++ dW w):=Df X hl (Ea _) (λx C=>d.cl x (sZ.1 C)) (λx C=>sZ.2 (by simp[C])) (λx C s k R h1 N O h4=>by
   obtain⟨j,hj,e⟩:=abv.1 (sZ.1 C)
   have h5:=d.dn j x s (by omega) (by rw[aaB hj,e]) h1 N
   have h6:=d.s1 _ k R h5 O (by omega)
   exact sZ.2 (List.mem_append_right _ (aaX.2 ⟨k,h6,rfl⟩)))
  rw[b8]
  refine⟨o3,λid c=>?_⟩
  obtain⟨q1,q2⟩:=d.f1 id c
  exact⟨by rw[k3 id q2,q1],by rw[e3];exact q2⟩
 have C:(l ++ dW w)[i]?=some ((l ++ dW w)[i]'(by omega)):=aaB (by omega)
 have a8:=aaL (show i < (l ++ dW w).length by omega)
 have ck:=d.dn
 generalize (l ++ dW w)[i]'(by omega)=x at C a8
 have bd:=d.cl x a8
 have ar:=bd.has hl
 have h1:=J4 g X x ar
 cases F:aW g x with
 | mk s bl =>
 have cr:=ud X ar F
 rw[F] at h1
 obtain⟨id,hu,c⟩:=d.own.head.sl (by rw[bG];omega)
 simp only at hu c
 rw[bG] at hu
 simp only[ag,encS,bu] at h1
 simp(disch:=omega)only[↓wr,seval,wq,t2,t5,t6,t7,hu,c,ta C,ag,encS]
 refine⟨by omega,by rw[bG];omega,?_⟩
 refine ax.pure h1 ?_
 have skip:(bl=true->s < 0->seen.getD (-1 - s).toNat false=true)->TP g l H H' (i+1) r J w seen:=λh =>
  ⟨d.own,d.f1,d.f2,d.nd,d.kl,d.sl,d.s1,d.s2,d.cl,λj y t hj I P Y=>by
   rcases aa2 j i with q | q
   .exact d.dn j y t q I P Y
   .have:j=i:=by omega
    subst this
    rw[C] at I
    simp only[aaC] at I
    subst I
    rw[F] at P
    simp only[aaG] at P
    obtain⟨rfl,rfl⟩:=P
    exact h rfl Y,by omega⟩
 cases bl with
 | false =>
  simp(disch:=omega)only[↓wr,seval,wq,t2,t5,t6,t7]
  exact⟨l.length+g.rules.length - (i+1),by omega,i+1,r,J,w,seen,rfl,skip (by simp),t2,by rw[<-hu];exact t5,t6,rfl⟩
 | true =>
 simp(disch:=omega)only[↓wr,seval,wq]
 apply aj.dec<;>intro Y
 .simp(disch:=omega)only[↓wr,seval,wq,t2,t5,t6,t7]
  exact⟨l.length+g.rules.length - (i+1),by omega,i+1,r,J,w,seen,rfl,skip (λ_ h=>by omega),t2,by rw[<-hu];exact t5,t6,rfl⟩
 have hG:=rH X ar F
 have bn:(-1 - s).toNat < g.al.length:=by
  unfold dL at hG
  rw[aaD (by omega)] at hG
  simp at hG;omega
 obtain⟨K,A,L⟩:=d.own.tail.head.sl (by simp[d.sl];omega)
 simp only at A L
 rw[aaJ,d.sl] at A
 have U:(-1 - s).toNat < seen.length:=by rw[d.sl];exact bn
 simp(disch:=omega)only[↓wr,seval,wq,t6,A,L,Rg U]
 refine⟨by omega,by simp[d.sl];omega,?_⟩
 apply aj.split<;>intro N
 .simp(disch:=omega)only[↓wr,seval,wq,t2,t5,t6,t7]
  exact⟨l.length+g.rules.length - (i+1),by omega,i+1,r,J,w,seen,rfl,skip (λ_ _=>N),t2,by rw[<-hu];exact t5,by rw[<-A];exact t6,rfl⟩
 obtain⟨n,P⟩:∃ n:Nat,-1 - s=(n:Int):=⟨(-1 - s).toNat,by omega⟩
 have br:(-1 - s).toNat=n:=by omega
 rw[br] at bn U N
 have b9:(dU seen).set n [gb true]=dU (seen.set n true):=by simp[acC]
 simp(disch:=omega)only[↓wr,seval,wq,t2,t5,t6,t7,A,L,ag,encS,P,Rg U,b9]
 refine⟨by omega,by simp[d.sl];omega,?_⟩
 have a1:∀ m,(seen.set n true).getD m false=if n=m then true else seen.getD m false:=λm=>by
  rw[jQ]
  by_cases e:n=m
  .rw[aaF ⟨e,U⟩,aaF e]
  .rw[aaD (λh=>e h.1),aaD e]
 have o2:bq (H'.set K (.arr 1 (dU (seen.set n true)))) [(r,2,aV (l ++ dW w)),(J,1,dU (seen.set n true))]:=by
  have O:=d.own.perm (.swap _ _ _)
  rw[A] at O ⊢
  exact(O.put (es':=dU (seen.set n true)) (by simp) (by simp[d.sl])).perm (.swap _ _ _)
 have M:∀ id,H id≠.dead->id≠K:=λid c e=>by
  have:=(d.f2 id c).2
  rw[A,e] at this
  exact this rfl
 have a6:c8 H (H'.set K (.arr 1 (dU (seen.set n true)))) r:=λid c=>⟨by simp only[View.set];rw[aaD (M id c)];exact(d.f1 id c).1,(d.f1 id c).2⟩
 have a7:c8 H (H'.set K (.arr 1 (dU (seen.set n true)))) J:=λid c=>⟨by simp only[View.set];rw[aaD (M id c)];exact(d.f2 id c).1,(d.f2 id c).2⟩
 generalize H'.set K (.arr 1 (dU (seen.set n true)))=H4 at o2 a6 a7 ⊢
 refine ba.up g.rules.length (λk T Z=>∃ (S:V) (f:List Nat),f=w ++ (List.range k).filter (λ(q:Nat)=>decide ((aA g q).left=n))/\bq Z [(S,2,aV (l ++ dW f)),(J,1,dU (seen.set n true))]/\c8 H Z S/\c8 H Z J /\
  T 2=.aL (ag g) 0/\T 5=S/\T 6=J/\T 7=gi i/\T 8=gi s/\T 51=.aU (g.rules.map bg)/\T 52=gi g.rules.length/\T 53=gi k) ⟨r,w,by simp,o2,a6,a7,t2,by rw[<-hu];exact t5,by rw[<-A];exact t6,t7,rfl,rfl,rfl,rfl⟩ ?_
 clear t2 t5 t6 t7 o2 a6 a7
 rintro k j T5 Z hk ⟨S,f,G,o5,f5,g5,t2,t5,t6,t7,t8,t51,t52,t53⟩
 have bs:∀ q,q∈w->¬ (aA g q).left=n:=λq z e=>by
  have hR:g.rules[q]?=some (aA g q):=by unfold aA;exact getD_some (d.kl q z)
  have:=d.s2 q _ z hR
  rw[e] at this
  simp only[aa0] at this
  rw[N] at this;simp at this
 have an:f.Nodup:=by
  rw[G,ab9]
  refine⟨d.nd,(List.nodup_range).filter _,λa ha b hb e=>?_⟩
  subst e
  exact bs a ha (by simpa using (abt.1 hb).2)
 simp(disch:=omega)only[↓wr,seval,wq,vt,t2,t5,t6,t7,t8,t51,t52,t53]
 apply aj.dec<;>intro ca
 .have hR:g.rules[k]?=some (aA g k):=by unfold aA;exact getD_some (by omega)
  have bx:∀ q∈f,q < g.rules.length:=λq z=>by
   rw[G] at z
   rcases aa1.1 z with h | h
   .exact d.kl q h
   .have:=abA.1 (abt.1 h).1;omega
  have cu:=A6 an bx
  have p:w ++ (List.range (k+1)).filter (λ(q:Nat)=>decide ((aA g q).left=n))=if (aA g k).left=n then f ++ [k] else f:=by
   rw[abH,ach,<-abl,<-G]
   by_cases e:(aA g k).left=n <;> simp[e]
  generalize aA g k=R at hR p
  simp(disch:=omega)only[↓wr,seval,wq,t2,t5,t6,t7,t8,t51,t52,t53,aaE,hR,aaH,bg]
  intro q z
  rw[set_set]
  have b0:(Z.set q (.arr 3 [[gi R.left,encI R.right,gi R.prec]])) q=.arr 3 [[gi R.left,encI R.right,gi R.prec]]:=by simp[View.set]
  have E:∀ id,H id≠.dead->id≠q:=λid c e=>by
   have:=(f5 id c).1
   rw[e,z] at this
   exact c (by rw[e];exact this.symm)
  have o6:=o5.fresh (o:=.arr 3 [[gi R.left,encI R.right,gi R.prec]]) z
  have f6:c8 H (Z.set q (.arr 3 [[gi R.left,encI R.right,gi R.prec]])) S:=λid c=>⟨by simp only[View.set];rw[aaD (E id c)];exact(f5 id c).1,(f5 id c).2⟩
  have g6:c8 H (Z.set q (.arr 3 [[gi R.left,encI R.right,gi R.prec]])) J:=λid c=>⟨by simp only[View.set];rw[aaD (E id c)];exact(g5 id c).1,(g5 id c).2⟩
  generalize Z.set q (.arr 3 [[gi R.left,encI R.right,gi R.prec]])=H6 at b0 o6 f6 g6
  clear o5 f5 g5 z E
  simp(disch:=omega)only[↓wr,seval,wq,t2,t5,t6,t7,t8,b0,P]
  refine⟨rfl,?_⟩
  apply aj.eq<;>intro he
  .simp(disch:=omega)only[↓wr,seval,wq,t2,t5,t6,t7,t8]
   intro q2 b1
   simp(disch:=omega)only[↓wr,seval,wq,bz]
   have D:∀ id,H id≠.dead->id≠q2:=λid c e=>by
    have:=(f6 id c).1
    rw[e,b1] at this
    exact c (by rw[e];exact this.symm)
   refine b6 (o6.fresh b1) (by simp[aI]) (by unfold aC;rw[bG];simp[dW];omega) (by unfold aC;rw[bG];simp[dW];omega) ?_
   intro r3 H7 o7 l7
   simp(disch:=omega)only[↓wr,seval,wq,t2,t6,t7,t8,t51,t52,t53]
   rw[aaF he] at p
   have f7:∀ v,c8 H H6 v->(∀ id,owner v=some id->owner S≠some id/\owner r3≠some id)->c8 H H7 v:=λv hv cv id c=>by
    obtain⟨e1,e2⟩:=hv id c
    obtain⟨k1,k2⟩:=l7 id (by simp only[View.set];rw[aaD (D id c),e1];exact c) (f6 id c).2
    refine⟨?_,e2⟩
    rw[k1]
    simp only[View.set]
    rw[aaD (D id c),e1]
   have f8:c8 H H7 r3:=λid c=>by
    obtain⟨e1,e2⟩:=f6 id c
    obtain⟨k1,k2⟩:=l7 id (by simp only[View.set];rw[aaD (D id c),e1];exact c) e2
    refine⟨?_,k2⟩
    rw[k1]
    simp only[View.set]
    rw[aaD (D id c),e1]
   refine aG hk (by omega) ⟨r3,f ++ [k],p.symm,?_,f8,λid c=>⟨(f8 id c).1,(g6 id c).2⟩,t2,rfl,t6,t7,t8,t51,t52,rfl⟩
   have e1:aV (l ++ dW (f ++ [k]))=aV (l ++ dW f) ++ [[gi k,gi 0]]:=by simp[aV,dW,bu]
   rw[e1]
   exact o7
  .simp(disch:=omega)only[↓wr,seval,wq,t2,t5,t6,t7,t8,t51,t52,t53]
   rw[aaD he] at p
   exact aG hk (by omega) ⟨S,f,p.symm,o6,f6,g6,t2,t5,t6,t7,t8,t51,t52,rfl⟩
 .have cc:k=g.rules.length:=by omega
  subst cc
  simp(disch:=omega)only[↓wr,seval,wq,t2,t5,t6,t7]
  have B:∀ q,q∈f↔q∈w∨(q < g.rules.length/\(aA g q).left=n):=λq=>by
   rw[G,aa1,abt,abA,aaP]
  have b2:∀ (q:Nat) (R:aX),g.rules[q]?=some R->aA g q=R:=λq R h=>by
   unfold aA
   rw[aa0,aaA,h];rfl
  have b3:∀ (j:Nat),j<=i->(l ++ dW f)[j]?=(l ++ dW w)[j]?:=λj hj=>by
   rw[G,dW,aaW,<-abl]
   exact abb (by simp only[dW] at hc;omega)
  refine⟨l.length+g.rules.length - (i+1),by omega,i+1,S,J,f,seen.set n true,rfl,⟨o5,f5,g5,an,λq z=>?_,by rw[acn];exact d.sl,λm q R O h4 h5=>?_,λq R O h4=>?_,λy I=>?_,λj y t hj I W Y=>?_,?_⟩,t2,t5,t6,rfl⟩
  .rcases (B q).1 z with h | h
   .exact d.kl q h
   .exact h.1
  .rw[a1] at O
   split at O
   .rename_i e
    subst e
    exact(B q).2 (.inr ⟨(aaR.1 h4).1,by rw[b2 q R h4];exact h5⟩)
   .exact(B q).2 (.inl (d.s1 m q R O h4 h5))
  .rw[a1]
   rcases (B q).1 O with h | h
   .split
    .rfl
    .exact d.s2 q R h h4
   .rw[b2 q R h4] at h
    rw[h.2,aa0,aaF rfl]
  .rcases aa1.1 I with h | h
   .exact d.cl y (List.mem_append_left _ h)
   .obtain⟨q,z,rfl⟩:=aaX.1 h
    rcases (B q).1 z with h | h
    .exact d.cl _ (List.mem_append_right _ (aaX.2 ⟨q,h,rfl⟩))
    .have hR:g.rules[q]?=some (aA g q):=by unfold aA;exact getD_some h.1
     exact .step bd F (by omega) hR (by rw[h.2,P])
  .rw[b3 j (by omega)] at I
   rw[a1]
   rcases aa2 j i with q | q
   .split
    .rfl
    .exact d.dn j y t q I W Y
   .have:j=i:=by omega
    subst this
    rw[C] at I
    simp only[aaC] at I
    subst I
    rw[F] at W
    simp only[aaG,and_true] at W
    subst W
    rw[br,aaF rfl]
  .rw[G,dW,aaW,<-abl,aa4]
   simp only[dW] at hc
   omega
def iP (l:List UInt8):Value:=.string ⟨l.toArray⟩
theorem Jr {a b:List UInt8} : ((⟨a.toArray⟩:ByteArray) == ⟨b.toArray⟩)=(a == b):=by
 show (a.toArray == b.toArray)=_
 simp
theorem KI {P:Program} {kt:TypeId} (h:P.underlying kt=some .string):Dq P kt iP where
 ty:=⟨_,h,λa b=>by simp only[Instr.sameNow,iP,Jr],λa e=>Fo h trivial e 9999 _⟩
 bits:=λa b c=>by
  have:a=b:=by simpa using c
  subst this
  show ((⟨a.toArray⟩:ByteArray) == ⟨a.toArray⟩)=true
  rw[Jr];simp
def rM (l:List ay):List Int:=l.flatMap λx=>[x.au+1,x.dot]
theorem V1 (l:List ay):(rM l).length=2 * l.length:=by
 induction l with
 | nil=>rfl
 | cons x l a=>simp only[rM,List.flatMap_cons,aa4,aaN,aa8] at a ⊢;omega
theorem EW:∀ l:List ay,l8 ((rM l).map λn=>[gy n])=some (gH l)
 | []=>rfl
 | x :: l=>by
  have a:=EW l
  simp only[rM,gH,List.flatMap_cons,abk,abG,aa9,l8] at a ⊢
  rw[a];rfl
theorem WG {x:Int} (h1:0<=x) (c:x < 256):IntKind.wrap .u8 x=x:=by
 unfold IntKind.wrap
 have a:(2:Int) ^ IntKind.u8.bits=256:=by rfl
 have b:IntKind.u8.signed=false:=by rfl
 simp only[a,b,ab2,aba,if_false]
 omega
theorem X8 {P:Program} {T:Env} {H:View} {K:V->View->Prop} {w:cX (T,H,K)} {t e d ty:TypeId} {x:Operand} {u:V} {xs:List (List V)} {rd:List Nat} {l:List UInt8} {k:Nat} (hu:P.underlying t=some (.slice e)) (he:P.underlying e=some (.int .u8)) (a:P.underlying d=some .string)
  (b:ev T x=u) (c:bR H u=some (xs,rd)) (f:cT u=some k) (g:l8 xs=some l) (hk:K (.val (iP l)) H):jI P (.convert t d x) ty T H K w:=by
 intro n _
 have h:lY P t d=true:=by simp[lY,hu]
 refine⟨.val (iP l),.none,rd,?_,hk⟩
 simp only[sI,cH,oper]
 rw[aaF h,b]
 simp[ox,hu,he,a,c,f,g,iP]
def xJ:SC :=
 ae [ab [aQ 15 .lss 14 13],bX 15 (.exit 0),.block 1 (ae [ab [aO 16 2 12 14,aZ 17 2 16,((some 7),.op (.alloc [(.val (.int .i64 0)),(.val (.int .i64 0))])),cD 2 7 17],ab [aZ 19 4 2,aZ 20 2 7,bk 21 187 [19,20],aa 18 21,dr 22 0 18,dr 23 1 18,aa 8 22,aa 9 23],ab [aa 24 9],bb 24 (ae [ab [aZ 25 4 2,aa 26 8,bk 27 188 [25,26],aa 10 27],ab [aa 28 5,aa 29 10,aa 30 5,aa 31 10,((some 32),.op (.old (.lookup 209 (.tmp 30) (.tmp 31) false) 103)),ao 33 0 7,ak 34 33,ao 35 1 7,ak 36 35,aF 37 .add 36 1,((some 38),.op (.build [(.val (.int .i64 0)),(.val (.int .i64 0))] [(0,1,(.tmp 34)),(1,1,(.tmp 37))])),((some 39),.op (.bJ 1 2 [(.val (.int .i64 0)),(.val (.int .i64 0))] [(0,(.tmp 38))])),fD 40 2 16 32 39,(none,.op (.old (.mapUpdate 209 (.tmp 28) (.tmp 29) (.tmp 40)) 0))]])]),ab [aF 41 .add 14 1,aa 14 41]]
def BO:SF:=⟨ae [ab [cF 2 0,((some 4),.op (.eJ (.val (.val (.map none)))))],ab [((some 11),.op (.rY)),aa 5 11],ae [ab [aa 12 1,aN 13 12,aR 14 0],bZ 0 xJ],ab [aa 42 5,aa 4 42],.ret],
 [.tmp 4],43⟩
theorem Fj:aP Tryz.prog 122 [2]=some BO:=by kernel_rfl
def BR:SC :=
 ae [ab [aQ 9 .lss 8 7],bX 9 (.exit 0),.block 1 (ae [ab [aO 10 2 6 8,aZ 11 2 10,((some 5),.op (.alloc [(.val (.int .i64 0)),(.val (.int .i64 0))])),cD 2 5 11],ab [aa 12 3,ao 13 0 5,ak 14 13,aF 15 .add 14 1,((some 16),.op (.conv .u8 (.tmp 15))),ao 17 1 5,ak 18 17,((some 19),.op (.conv .u8 (.tmp 18))),((some 20),.op (.bJ 2 1 [(.val (.int .u8 0))] [(0,(.tmp 16)),(1,(.tmp 19))])),fD 21 1 1 12 20,aa 3 21]]),ab [aF 22 .add 8 1,aa 8 22]]
def Ek:SF:=⟨ae [.region false [⟨none,[((some 2),.op (.eJ (.val (.val (.string ⟨#[]⟩)))))]⟩],ab [bT 3 1],ae [ab [aa 6 0,aN 7 6,aR 8 0],bZ 0 BR],ab [aa 23 3,((some 24),.op (.old (.convert 90 9 (.tmp 23)) 9)),aa 2 24],.ret],
 [.tmp 2],25⟩
theorem IS:aP Tryz.prog 121 []=some Ek:=by kernel_rfl
theorem Li (g:af) (K:g.cY) (l:List ay) (M:∀ x∈l,cw g x) (C:l.length<=10000) (u:V) (H:View) (L:aT H u 2 (aV l)):aw Tryz.prog 121 [u] H λr H'=>r=.val (iP (gH l))/\∀ id,H id≠.dead->H' id=H id:=by
 refine aw.of mixed IS ?_
 have hlen:cT u=some l.length:=by rw[L.len,bG]
 have N:=K.rules
 simp(disch:=omega)only[↓wr,seval,wq,Ek,hlen]
 refine ba.up l.length (λi T H'=>∃ b:V,aT H' b 1 ((rM (l.take i)).map λn=>[gy n])/\c8 H H' b/\T 3=b/\T 6=u/\T 7=gi l.length/\T 8=gi i) ⟨.emp 1,.nil,.emp,rfl,rfl,rfl,rfl⟩ ?_
 rintro i k T H' hk ⟨b,v,w,t3,t6,t7,t8⟩
 simp(disch:=omega)only[↓wr,seval,wq,BR,t3,t6,t7,t8]
 apply aj.dec<;>intro O
 .have D:l[i]?=some (l[i]'(by omega)):=aaB (by omega)
  have f:=M _ (aaL (show i < l.length by omega))
  have z:l.take (i+1)=l.take i ++ [l[i]'(by omega)]:=by rw[aa3,D];rfl
  generalize l[i]'(by omega)=x at D f z
  have P:=dS K f.1
  have Q:=f.1
  have R:=f.2
  obtain⟨id,hu,a⟩:=L.sl (by rw[bG];omega)
  have A:H' id=.arr 2 (aV l):=by rw[(w id (by rw[a];simp)).1,a]
  rw[bG] at hu
  subst hu
  have E:=V1 (l.take i)
  rw[abn] at E
  simp(disch:=omega)only[↓wr,seval,wq,t3,t6,t7,t8,A,ta D,WG (x:=x.au+1) (by omega) (by omega),WG (x:=x.dot) (by omega) (by omega)]
  refine⟨by omega,by rw[bG];omega,?_⟩
  intro q B o F
  obtain⟨G,p⟩:=cq F (by simp)
  rw[aaD G] at p
  have I:∀ j,H j≠.dead->j≠q/\j≠o:=λj c=>by
   have h1:=(w j c).1
   exact⟨λe=>c (by rw[e] at h1 ⊢;rw[<-h1,B]),λe=>c (by rw[e] at h1 ⊢;rw[<-h1,p])⟩
  have J:∀ a0 h a2,aT (((H'.set q a0).set q h).set o a2) b 1 ((rM (l.take i)).map λn=>[gy n]):=λa0 h a2=>v.keep λid a=>by
   have h1:=(v.live a).1
   have s:id≠q:=by rintro rfl;rw[B] at h1;simp at h1
   have t:id≠o:=by rintro rfl;rw[p] at h1;simp at h1
   simp[View.set,s,t]
  have m:∀ a0 h a2 j,H j≠.dead->(((H'.set q a0).set q h).set o a2) j=H j:=λa0 h a2 j c=>by
   obtain⟨s,t⟩:=I j c
   simp[View.set,s,t,(w j c).1]
  have d:∀ (a0 h:dG) (s t:List V),bR (((H'.set q a0).set q h).set o (.arr 1 [s,t])) (.sl o 0 2 1)=some ([s,t],[o]):=λa0 h s t=>by simp[bR,View.set]
  simp(disch:=omega)only[↓wr,seval,wq,d,t3]
  refine gF (J _ _ _) (by simp[aI]) (by unfold aC;simp;omega) (by unfold aC;simp;omega) ?_
  intro S Y U W
  simp(disch:=omega)only[↓wr,seval,wq,t6,t7,t8]
  refine aG hk (by omega) ⟨S,?_,λj c=>?_,rfl,t6,t7,rfl⟩
  .have:(rM (l.take (i+1))).map (λn=>[gy n])=(rM (l.take i)).map (λn=>[gy n]) ++ [[gy (x.au+1)],[gy x.dot]]:=by
    rw[z];simp[rM]
   rw[this];exact U
  .obtain⟨X,k2⟩:=W j (by rw[m _ _ _ j c];exact c) (w j c).2
   exact⟨by rw[X,m _ _ _ j c],k2⟩
 .rw[aaS (by omega)] at v
  simp(disch:=omega)only[↓wr,seval,wq,t3]
  have d:∃ rd,bR H' b=some ((rM l).map (λn=>[gy n]),rd):=by
   rcases v with ⟨e,k,rfl⟩ | ⟨n,rfl,C⟩
   .exact⟨[],by rw[e];rfl⟩
   .rcases B:(rM l).map (λn=>[gy n]) with _ | ⟨y,ys⟩
    .exact⟨[],by simp[bR]⟩
    .rw[B] at C
     exact⟨[n],by
      have:=p0 (H:=H') n 0 ys.length 1 1 (y :: ys) C (by simp)
      rw[aaN,this];simp⟩
  obtain⟨rd,d⟩:=d
  refine X8 (u:=b) (xs:=(rM l).map λn=>[gy n]) (rd:=rd) (k:=((rM l).map λn=>[gy n]).length) (l:=gH l) Tryz.underlying90 Tryz.underlying5 Tryz.underlying9 (by simp(disch:=omega)only[↓wr,seval,wq];exact t3) d v.len (EW l) ?_
  simp(disch:=omega)only[↓wr,seval,wq]
  exact λid a=>(w id a).1
theorem BX (g:af) (p:List ay) (y:ay) (s:Int):bA g (p ++ [y]) s=if aW g y=(s,true) then bA g p s ++ [⟨y.au,y.dot+1⟩] else bA g p s:=by
 unfold bA
 rw[ach,aaW]
 split
 .rename_i h;simp[h]
 .rename_i h;simp[h]
def jY (g:af) (p:List ay) (A:cZ Int):List dH:=A.map λx=>(x.2.1,2,aV (bA g p (bh g x.1.toNat)))
structure vS (g:af) (p:List ay) (H0 H:View) (q:Nat) (A:cZ Int):Prop where
 mp:∃ c,H q=.map (cO (Value.int .i64) A) c
 nd:(A.map (·.1)).Nodup
 own:bq H (jY g p A)
 ne:∀ x∈A,0<=x.1/\bA g p (bh g x.1.toNat)≠[]
 all:∀ k:Nat,bA g p (bh g k)≠[]->((k:Nat):Int)∈A.map (·.1)
 old:∀ id,H0 id≠.dead->H id=H0 id
 q0:H0 q=.dead
 new:∀ x∈A,∀ id,owner x.2.1=some id->H0 id=.dead
theorem getM_none {A:cZ Int} {k:Int} : getM A k=none↔k ∉ A.map (·.1):=by
 induction A with
 | nil=>simp[getM]
 | cons x A a =>
  unfold getM at a ⊢
  rw[List.find?_cons]
  by_cases h:k=x.1
  .simp[h]
  .simp only[beq_eq_false_iff_ne.2 h,aa9,aaT,not_or]
   rw[a]
   simp[h]
theorem zA {A:cZ Int} {k:Int} {v:V} (h:getM A k=some v):∃ a d b,A=a ++ (k,v,b) :: d/\k ∉ a.map (·.1)/\∀ v' c,bV k v' c A=a ++ (k,v',b) :: d:=by
 induction A with
 | nil=>simp[getM] at h
 | cons x A f =>
  unfold getM at h f
  rw[List.find?_cons] at h
  by_cases e:k=x.1
  .simp only[e,beq_self_eq_true,aaH,aaC] at h
   refine⟨[],A,x.2.2,by rw[e,<-h];rfl,by simp,λv' c=>?_⟩
   rw[bV,e,beq_self_eq_true,aaF rfl];rfl
  .rw[beq_eq_false_iff_ne.2 e] at h
   obtain⟨a,d,b,rfl,g,i⟩:=f h
   refine⟨x :: a,d,b,rfl,by simp only[aa9,aaT,not_or];exact⟨e,g⟩,λv' c=>?_⟩
   rw[bV,beq_eq_false_iff_ne.2 e,i];rfl
theorem VM {A:cZ Int} {k:Int} (h:k ∉ A.map (·.1)) (v:V) (c:Nat):bV k v c A=A ++ [(k,v,c)]:=by
 induction A with
 | nil=>rfl
 | cons x A a =>
  simp only[aa9,aaT,not_or] at h
  rw[bV,beq_eq_false_iff_ne.2 h.1,a h.2];rfl
theorem vS.skip {g:af} {p:List ay} {a H:View} {q:Nat} {A:cZ Int} (h:vS g p a H q A) {y:ay} (b:(aW g y).2=false):vS g (p ++ [y]) a H q A:=by
 have e:∀ s,bA g (p ++ [y]) s=bA g p s:=λs=>by rw[BX,aaD (λh=>by rw[h] at b;simp at b)]
 have c:jY g (p ++ [y]) A=jY g p A:=by simp only[jY,e]
 exact⟨h.mp,h.nd,by rw[c];exact h.own,λx d=>by rw[e];exact h.ne x d,λk hk=>by rw[e] at hk;exact h.all k hk,h.old,h.q0,h.new⟩
theorem vS.val {g:af} {p:List ay} {d H:View} {q:Nat} {A:cZ Int} (h:vS g p d H q A) (r:Nat):aT H ((getM A r).getD (.emp 1)) 2 (aV (bA g p (bh g r))):=by
 cases c:getM A r with
 | none =>
  have e:=getM_none.1 c
  have:bA g p (bh g r)=[]:=ace λa=>e (h.all r a)
  rw[this];exact .nil
 | some v =>
  obtain⟨f,i,b,rfl,_,_⟩:=zA c
  have:=h.own.1 (v,2,aV (bA g p (bh g r))) (by simp[jY])
  exact this
theorem vS.put {g:af} {p:List ay} {B H:View} {q:Nat} {A:cZ Int} (h:vS g p B H q A) {y:ay} {r:Nat} (W:aW g y=(bh g r,true)) {H1:View} {v':V} (X:aT H1 v' 2 (aV (bA g p (bh g r) ++ [⟨y.au,y.dot+1⟩]))) (w:Left H H1 ((getM A r).getD (.emp 1)) v') (c C:Nat) :
  vS g (p ++ [y]) B (H1.set q (.map (cO (Value.int .i64) (bV (r:Int) v' c A)) C)) q (bV (r:Int) v' c A):=by
 obtain⟨c0,O⟩:=h.mp
 have hr:bA g (p ++ [y]) (bh g r)=bA g p (bh g r) ++ [⟨y.au,y.dot+1⟩]:=by rw[BX,aaF W]
 have i:∀ x:Int × V × Nat,0<=x.1->x.1≠r->bA g (p ++ [y]) (bh g x.1.toNat)=bA g p (bh g x.1.toNat):=λx Q d=>by
  rw[BX,aaD]
  intro e
  rw[W] at e
  simp only[aaG,and_true] at e
  have h1:=yM g r
  rw[e,yM] at h1
  omega
 have D:owner ((getM A r).getD (.emp 1))≠some q:=λe=>by
  have:=((h.val r).live e).1
  rw[O] at this;simp at this
 have E:H1 q≠.dead/\owner v'≠some q:=by
  obtain⟨k1,k2⟩:=w q (by rw[O];simp) D
  exact⟨by rw[k1,O];simp,k2⟩
 have hold:∀ id,B id≠.dead->id≠q/\owner ((getM A r).getD (.emp 1))≠some id:=λid f=>by
  refine⟨λe=>f (by rw[e];exact h.q0),λe=>?_⟩
  cases t:getM A r with
  | none=>rw[t] at e;simp[owner] at e
  | some v =>
   rw[t] at e
   obtain⟨s,l,b,rfl,_,_⟩:=zA t
   exact f (h.new (r,v,b) (by simp) id e)
 have m:∀ id,B id≠.dead->(H1.set q (.map (cO (Value.int .i64) (bV (r:Int) v' c A)) C)) id=B id:=λid f=>by
  simp only[View.set]
  rw[aaD (hold id f).1,(w id (by rw[h.old id f];exact f) (hold id f).2).1,h.old id f]
 have F:∀ id,owner v'=some id->B id=.dead:=λid e=>abO λf=>(w id (by rw[h.old id f];exact f) (hold id f).2).2 e
 have u:∀ {L:List dH},bq H1 L->(∀ x∈L,owner x.1≠some q)->bq (H1.set q (.map (cO (Value.int .i64) (bV (r:Int) v' c A)) C)) L:=λY d=>⟨λx G=>(Y.1 x G).other (d x G),Y.2⟩
 have j:∀ x∈A,owner x.2.1≠some q:=λx d=>h.own.I5 O _ (aaX.2 ⟨x,d,rfl⟩)
 cases t:getM A r with
 | none =>
  have P:=getM_none.1 t
  rw[t] at w
  rw[VM P] at *
  have R:jY g (p ++ [y]) (A ++ [((r:Int),v',c)])=jY g p A ++ [(v',2,aV (bA g p (bh g r) ++ [⟨y.au,y.dot+1⟩]))]:=by
   simp only[jY,aaW,aa9,acb,aa0,hr]
   congr 1
   refine List.map_congr_left λx d=>?_
   rw[i x (h.ne x d).1 (λe=>P (aaX.2 ⟨x,d,e⟩))]
  refine⟨⟨C,by simp[View.set]⟩,?_,?_,λx d=>?_,λk hk=>?_,m,h.q0,λx d id e=>?_⟩
  .rw[aaW,ab9]
   refine⟨h.nd,by simp,λa ha b Z e=>?_⟩
   simp at Z;subst Z;subst e;exact P ha
  .rw[R]
   have S:bq H1 ((v',2,aV (bA g p (bh g r) ++ [⟨y.au,y.dot+1⟩])) :: jY g p A):=(h.own.emp (k:=1) (sz:=2)).left (by simpa using X) w
   refine u (S.perm (List.perm_append_comm (l₁:=[_]))) λx d=>?_
   rcases aa1.1 d with d | d
   .obtain⟨z,I,rfl⟩:=aaX.1 d
    exact j z I
   .simp at d;subst d;exact E.2
  .rcases aa1.1 d with d | d
   .rw[i x (h.ne x d).1 (λe=>P (aaX.2 ⟨x,d,e⟩))];exact h.ne x d
   .simp at d;subst d;simp[hr]
  .rw[aaW,aa1]
   by_cases e:k=r
   .right;simp[e]
   .left
    refine h.all k ?_
    have:=i ((k:Int),.any,0) (by simp) (by simp only;omega)
    simp only[aa0] at this
    rw[<-this];exact hk
  .rcases aa1.1 d with d | d
   .exact h.new x d id e
   .simp at d;subst d;exact F id e
 | some v =>
  obtain⟨s,l,b,rfl,T,J⟩:=zA t
  rw[t] at w
  rw[J] at *
  have K:=h.nd
  rw[aaW,aa9,ab9] at K
  have U:(r:Int) ∉ l.map (·.1):=(abK.1 K.2.1).1
  have M:∀ x∈s,x.1≠r:=λx d e=>T (aaX.2 ⟨x,d,e⟩)
  have N:∀ x∈l,x.1≠r:=λx d e=>U (aaX.2 ⟨x,d,e⟩)
  have n:∀ x∈s,x∈s ++ ((r:Int),v,b) :: l:=λx d=>List.mem_append_left _ d
  have o:∀ x∈l,x∈s ++ ((r:Int),v,b) :: l:=λx d=>List.mem_append_right _ (aaV _ d)
  have R:jY g (p ++ [y]) (s ++ ((r:Int),v',b) :: l)=jY g p s ++ (v',2,aV (bA g p (bh g r) ++ [⟨y.au,y.dot+1⟩])) :: jY g p l:=by
   simp only[jY,aaW,aa9,aa0,hr]
   congr 1
   .refine List.map_congr_left λx d=>?_
    rw[i x (h.ne x (n x d)).1 (M x d)]
   .congr 1
    refine List.map_congr_left λx d=>?_
    rw[i x (h.ne x (o x d)).1 (N x d)]
  have e0:jY g p (s ++ ((r:Int),v,b) :: l)=jY g p s ++ (v,2,aV (bA g p (bh g r))) :: jY g p l:=by
   simp only[jY,aaW,aa9,aa0]
  refine⟨⟨C,by simp[View.set]⟩,by simpa using h.nd,?_,λx d=>?_,λk hk=>?_,m,h.q0,λx d id e=>?_⟩
  .rw[R]
   have Q:=h.own
   rw[e0] at Q
   have S:bq H1 ((v',2,aV (bA g p (bh g r) ++ [⟨y.au,y.dot+1⟩])) :: (jY g p s ++ jY g p l)):=(Q.perm abF).left X w
   refine u (S.perm abF.symm) λx d=>?_
   rcases aa1.1 d with d | d
   .obtain⟨z,I,rfl⟩:=aaX.1 d
    exact j z (n z I)
   .rcases aaT.1 d with rfl | d
    .exact E.2
    .obtain⟨z,I,rfl⟩:=aaX.1 d
     exact j z (o z I)
  .rcases aa1.1 d with d | d
   .rw[i x (h.ne x (n x d)).1 (M x d)];exact h.ne x (n x d)
   .rcases aaT.1 d with rfl | d
    .simp[hr]
    .rw[i x (h.ne x (o x d)).1 (N x d)];exact h.ne x (o x d)
  .by_cases e:k=r
   .subst e;simp
   .have:=i ((k:Int),.any,0) (by simp) (by simp only;omega)
    simp only[aa0] at this
    rw[this] at hk
    have:=h.all k hk
    simpa using this
  .rcases aa1.1 d with d | d
   .exact h.new x (n x d) id e
   .rcases aaT.1 d with rfl | d
    .exact F id e
    .exact h.new x (o x d) id e
theorem vS.fresh {g:af} {p:List ay} {e H:View} {q:Nat} {A:cZ Int} (h:vS g p e H q A) {n:Nat} (b:H n=.dead) (o:dG):vS g p e (H.set n o) q A:=by
 obtain⟨c,d⟩:=h.mp
 have f:q≠n:=by rintro rfl;rw[b] at d;simp at d
 refine⟨⟨c,by simp[View.set,f,d]⟩,h.nd,h.own.fresh b,h.ne,h.all,λid a=>?_,h.q0,h.new⟩
 have i:id≠n:=by rintro rfl;rw[h.old id a] at b;exact a b
 simp[View.set,i,h.old id a]
theorem UX (g:af) (w:g.cY) (l:List ay) (hl:∀ x∈l,cw g x) (L:l.length<=10000) (u:V) (H:View) (ho:aT H u 2 (aV l)):aw Tryz.prog 122 [.agg (ag g),u] H λr H'=>∃ q A,r=.mp q/\vS g l H H' q A:=by
 refine aw.of mixed Fj ?_
 have hlen:cT u=some l.length:=by rw[ho.len,bG]
 have hT:=w.ai
 have hN:=w.al
 simp(disch:=omega)only[↓wr,seval,wq,BO,ag,encS,hlen]
 intro q M
 have N:vS g [] H (H.set q (.map [] 0)) q []:=⟨⟨0,by simp[View.set,cO]⟩,by simp,⟨by simp[jY],by simp[jY]⟩,by simp,λk hk=>absurd rfl hk,λid j=>by
  have:id≠q:=by rintro rfl;exact j M
  simp[View.set,this],M,by simp⟩
 generalize H.set q (.map [] 0)=H1 at N
 try simp(disch:=omega)only[↓wr,seval,wq]
 refine ba.up l.length (λi T H'=>∃ A,vS g (l.take i) H H' q A/\T 2=.aL (ag g) 0/\T 5=.mp q/\T 12=u/\T 13=gi l.length/\T 14=gi i) ⟨[],N,rfl,rfl,rfl,rfl,rfl⟩ ?_
 clear N M
 rintro i k T H' hk ⟨A,D,t2,t5,t12,t13,t14⟩
 simp(disch:=omega)only[↓wr,seval,wq,xJ,t2,t5,t12,t13,t14]
 apply aj.dec<;>intro hc
 .have O:l[i]?=some (l[i]'(by omega)):=aaB (by omega)
  have a:=hl _ (aaL (show i < l.length by omega))
  have B:l.take (i+1)=l.take i ++ [l[i]'(by omega)]:=by rw[aa3,O];rfl
  generalize l[i]'(by omega)=x at O a B
  have h1:=J4 g w x a
  cases b:aW g x with
  | mk s P =>
  have Q:=ud w a b
  rw[b] at h1
  have aq:=dS w a.1
  have ar:=a.2
  obtain⟨id,hu,j⟩:=ho.sl (by rw[bG];omega)
  have p:H' id=.arr 2 (aV l):=by rw[D.old id (by rw[j];simp),j]
  rw[bG] at hu
  subst hu
  simp only[ag,encS,bu] at h1
  simp(disch:=omega)only[↓wr,seval,wq,t2,t5,t12,t13,t14,p,ta O]
  refine⟨by omega,by rw[bG];omega,?_⟩
  intro E F
  rw[set_set]
  have d:(H'.set E (.arr 2 [[gi x.au,gi x.dot]])) E=.arr 2 [[gi x.au,gi x.dot]]:=by simp[View.set]
  have f:=D.fresh F (.arr 2 [[gi x.au,gi x.dot]])
  generalize H'.set E (.arr 2 [[gi x.au,gi x.dot]])=R at d f
  clear D F p
  try simp(disch:=omega)only[↓wr,seval,wq,t2,t5,d,ag,encS]
  refine ax.pure h1 ?_
  cases P with
  | false =>
   simp(disch:=omega)only[↓wr,seval,wq,t2,t5,t12,t13,t14]
   exact aG hk (by omega) ⟨A,by rw[B];exact f.skip (by rw[b]),t2,t5,t12,t13,rfl⟩
  | true =>
  have hh:=rH w a b
  obtain⟨r1,r2⟩:=Cw hh
  obtain⟨r3,r4⟩:=KB r1
  obtain⟨r,hr⟩:∃ r:Nat,nZ g s=r:=⟨(nZ g s).toNat,by omega⟩
  rw[hr,aa0] at r4
  have S:=Ut g w s Q
  rw[hr] at S
  simp only[ag,encS] at S
  simp(disch:=omega)only[↓wr,seval,wq,t2,t5,ag,encS]
  refine ax.pure S ?_
  obtain⟨c,U⟩:=f.mp
  simp(disch:=omega)only[↓wr,seval,wq,t5]
  refine Cd (kt:=3) (et:=103) (z:=.emp 1) (by kernel_rfl) (by kernel_rfl) (my .i64 Tryz.underlying3) (id:=q) (c:=c) (m:=A) (k:=(r:Int)) (by simp(disch:=omega)only[↓wr,seval,wq]) (by simp(disch:=omega)only[↓wr,seval,wq]) U ?_
  have a1:=f.val r
  have an:∀ n o,R n=.dead->(R.set n o) E=.arr 2 [[gi x.au,gi x.dot]]:=λn o L=>by
   have:E≠n:=by rintro rfl;rw[d] at L;simp at L
   simp[View.set,this,d]
  try simp(disch:=omega)only[↓wr,seval,wq,d]
  intro W X
  have C:=f.fresh X (.arr 2 [[gi x.au,gi (x.dot+1)]])
  have t:=C.val r
  have Y:bR (R.set W (.arr 2 [[gi x.au,gi (x.dot+1)]])) (.sl W 0 1 2)=some ([[gi x.au,gi (x.dot+1)]],[W]):=by simp[bR,View.set]
  simp(disch:=omega)only[↓wr,seval,wq,Y]
  have Z:=uL (g:=g) (l:=l.take i) (s:=bh g r)
  rw[abn] at Z
  refine gF t (by simp[aI]) (by unfold aC;rw[bG];simp;omega) (by unfold aC;rw[bG];simp;omega) ?_
  intro v' H6 o6 l6
  obtain⟨K,h⟩:=C.mp
  have G:owner ((getM A (r:Int)).getD (.emp 1))≠some q:=λe=>by
   have:=(t.live e).1
   rw[h] at this;simp at this
  have I:H6 q=.map (cO (Value.int .i64) A) K:=by
   rw[(l6 q (by rw[h];simp) G).1,h]
  simp(disch:=omega)only[↓wr,seval,wq,t5]
  refine yj (kt:=3) (et:=103) (by kernel_rfl) (my .i64 Tryz.underlying3) (id:=q) (c:=K) (m:=A) (k:=(r:Int)) (v:=v') (by simp(disch:=omega)only[↓wr,seval,wq]) (by simp(disch:=omega)only[↓wr,seval,wq]) (by simp(disch:=omega)only[↓wr,seval,wq]) I ?_
  intro c'
  simp(disch:=omega)only[↓wr,seval,wq,t2,t5,t12,t13,t14]
  have J:=C.put (y:=x) (r:=r) (by rw[b,r4]) (H1:=H6) (v':=v') (by
   have e:aV (bA g (l.take i) (bh g r) ++ [⟨x.au,x.dot+1⟩])=aV (bA g (l.take i) (bh g r)) ++ [[gi x.au,gi (x.dot+1)]]:=by simp[aV,bu]
   rw[e];exact o6) l6 K c'
  exact aG hk (by omega) ⟨bV (r:Int) v' K A,by rw[B];exact J,t2,t5,t12,t13,rfl⟩
 .rw[aaS (by omega)] at D
  simp(disch:=omega)only[↓wr,seval,wq,t5]
  exact⟨q,A,rfl,D⟩
theorem ax.still {P:Program} {f:FuncId} {vs:List V} {H:View} {K:V->View->Prop} {w:cX (H,K)} {a:V->View->Prop} (b:aw P f vs H a) (c:∀ r H',a r H'->∀ id,H id≠.dead->H' id=H id) (hk:∀ r H',a r H'->K r H'):ax P true f vs H K w:=by
 unfold ax
 simp only[if_true]
 exact(b.mono λr H' h=>⟨c r H' h,hk r H' h⟩).OV
theorem bq.join {H:View} {L M:List dH} (h:bq H L) (k:bq H M) (g:∀ x∈L,∀ y∈M,∀ id,owner x.1=some id->owner y.1≠some id):bq H (L ++ M):=by
 refine⟨λx c=>?_,?_⟩
 .rcases aa1.1 c with c | c
  .exact h.1 x c
  .exact k.1 x c
 .rw[List.filterMap_append,ab9]
  refine⟨h.2,k.2,λa i b j e=>?_⟩
  obtain⟨x,c,d⟩:=abY.1 i
  obtain⟨y,l,f⟩:=abY.1 j
  subst e
  exact g x c y l a d f
theorem bq.sub {H:View} {L M:List dH} (h:bq H L) (a:M.Sublist L):bq H M :=
 ⟨λx b=>h.1 x (a.subset b),h.2.sublist (a.filterMap _)⟩
theorem RN {l:List ay} (g:cz l) (i:l.length<=100000) (u:V) (H:View) (b:aT H u 2 (aV l)):aw Tryz.prog 124 [u] H λr H'=>H=H'/\aT H r 2 (aV l)/\(l≠[]->r=u):=by
 refine(N6 l i u H b).mono ?_
 rintro r H' ⟨j,k2,a⟩
 rw[Pf g] at k2
 have e:H'=H:=by
  funext id
  by_cases h:owner u=some id
  .rw[(b.live h).1,(k2.live (by rw[a];exact h)).1]
  .exact j id h
 subst e
 refine⟨rfl,k2,λc=>?_⟩
 have hp:0 < (aV l).length:=by rw[bG];exact ab7.2 c
 obtain⟨n,d,_⟩:=b.sl hp
 obtain⟨m,f,_⟩:=k2.sl hp
 rw[d,f] at a
 simp only[owner,aaC] at a
 rw[d,f,a]
def tx (g:af) (out:List aJ) (M:cZ (List UInt8)):Prop:=∀ l:List ay,(∀ x∈l,cw g x)->getM M (gH l)=if findD out l < 0 then none else some (gi (findD out l))
theorem IA:∀ {a b:List aJ},a.map aJ.bc=b.map aJ.bc->∀ k,findD a k=findD b k
 | [],[],_,_=>rfl
 | [],_ :: _,h,_=>by simp at h
 | _ :: _,[],h,_=>by simp at h
 | s :: a,t :: b,h,k=>by
  simp only[aa9,List.cons.injEq] at h
  rw[findD,findD,h.1,IA h.2 k]
theorem EI:∀ (a:List aJ) (s:aJ) (k:List ay),findD (a ++ [s]) k=if 0<=findD a k then findD a k else if s.bc=k then (a.length:Int) else -1
 | [],s,k=>by by_cases e:s.bc=k <;> simp[findD,e]
 | t :: a,s,k=>by
  have b:=EI a s k
  have h1:=uO a k
  rw[abk,findD,findD,b]
  simp only[aaN]
  push_cast
  by_cases e:t.bc=k <;> by_cases c:s.bc=k <;> by_cases d:0<=findD a k <;> simp only[e,c,d,if_true,if_false] <;> (repeat' split) <;> omega
theorem tx.same {g:af} {a b:List aJ} {M:cZ (List UInt8)} (h:tx g a M) (e:a.map aJ.bc=b.map aJ.bc):tx g b M:=λl c=>by
 rw[h l c,IA e]
theorem tx.put {g:af} (d:g.cY) {out:List aJ} {M:cZ (List UInt8)} (h:tx g out M) {k:List ay} (hk:∀ x∈k,cw g x) (i:findD out k < 0) (c:Nat):tx g (out ++ [⟨k,[]⟩]) (bV (gH k) (gi out.length) c M):=λl a=>by
 have h1:=EI out ⟨k,[]⟩ l
 have j:=uO out l
 rw[ry]
 by_cases e:l=k
 .subst e
  rw[aaD (by omega),aaF rfl] at h1
  rw[h1,beq_self_eq_true,aaF rfl,aaD (by omega)]
 .have f:(gH l == gH k)=false:=beq_eq_false_iff_ne.2 λh=>e (L1 d a hk h)
  rw[f,h l a]
  simp only[aba,if_false]
  by_cases b:0<=findD out l
  .rw[aaF b] at h1
   rw[h1]
  .rw[aaD b,aaD (λh=>e h.symm)] at h1
   rw[h1,aaF (by omega),aaF (by omega)]
theorem JD {A:cZ Int} {k:Nat} {v:V} (d:(A.map (·.1)).Nodup) (h:getM A (k:Int)=some v):∃ b,(A.filter (λx=>decide (((k:Nat):Int)<=x.1))).Perm (((k:Int),v,b) :: A.filter (λx=>decide (((k+1:Nat):Int)<=x.1))):=by
 obtain⟨g,f,b,rfl,a,_⟩:=zA h
 rw[aaW,aa9,ab9] at d
 have c:(k:Int) ∉ f.map (·.1):=(abK.1 d.2.1).1
 have e:∀ B:cZ Int,(k:Int) ∉ B.map (·.1)->B.filter (λx=>decide (((k:Nat):Int)<=x.1))=B.filter (λx=>decide (((k+1:Nat):Int)<=x.1)):=λB i=>List.filter_congr λx j=>by
  have:x.1≠(k:Int):=λe=>i (aaX.2 ⟨x,j,e⟩)
  rw[decide_eq_decide];omega
 refine⟨b,?_⟩
 rw[ach,ach,List.filter_cons,List.filter_cons,aaF (by simp),aaD (by simp only[aaP];push_cast;omega),e g a,e f c]
 exact abF
theorem YY {α:Type} {e u r:α} {S X Y:List α} (h:X.Perm (r :: Y)):(e :: u :: (S ++ X)).Perm (u :: ((S ++ [r,e]) ++ Y)):=by
 refine(List.Perm.swap _ _ _).trans (.cons _ ?_)
 rw[abl]
 refine((h.append_left S).cons e).trans ?_
 exact abF.symm.trans ((List.Perm.swap _ _ _).append_left S)
theorem Jf {α:Type} {u k e:α} {S R:List α} : (u :: (S ++ k :: e :: R)).Perm (e :: u :: (S ++ k :: R)):=by
 have h:(S ++ k :: e :: R).Perm (e :: (S ++ k :: R)):=by
  have:=abF (a:=e) (l₁:=S ++ [k]) (l₂:=R)
  simpa using this
 exact(h.cons u).trans (List.Perm.swap _ _ _)
def yF:SC :=
 ae [ab [aQ 49 .lss 48 47],bX 49 (.exit 2),.block 3 (ae [ab [aa 50 48,aa 9 50],ab [aa 51 8,aa 52 9,((some 53),.op (.old (.lookup 209 (.tmp 51) (.tmp 52) false) 103)),bk 54 124 [53],aa 10 54],ae [ab [aa 55 10,aN 56 55,aF 57 .eql 56 0],bb 57 (.exit 3)],ab [aa 58 9,aa 11 58],ae [ab [aa 59 9,ao 60 0 1,ak 61 60,aN 62 61,aQ 63 .geq 59 62],bb 63 (ab [ao 64 0 1,ak 65 64,aN 66 65,aF 67 .sub 66 1,aa 68 9,aQ 69 .sub 67 68,aa 11 69])],ab [aa 71 6,aa 72 10,bk 73 121 [72],((some 74),.op (.old (.lookup 208 (.tmp 71) (.tmp 73) true) 66)),aa 70 74,dr 75 0 70,dr 76 1 70,aa 12 75,aa 13 76],ae [ab [aa 77 13,c9 78 77],bb 78 (ae [ab [aa 79 5,aN 80 79,aa 12 80],ab [aa 81 6,aa 82 10,bk 83 121 [82],aa 84 12,(none,.op (.old (.mapUpdate 208 (.tmp 81) (.tmp 83) (.tmp 84)) 0))],ab [aa 85 5,aa 86 10,((some 87),.op (.build [(.emp 1),(.emp 1)] [(0,1,(.tmp 86))])),((some 88),.op (.bJ 1 2 [(.emp 1),(.emp 1)] [(0,(.tmp 87))])),fD 89 2 48 85 88,aa 5 89]])],ab [aa 90 5,aa 91 7,aa 92 5,aa 93 7,aO 94 2 92 93,ao 95 1 94,ak 96 95,aa 97 11,aa 98 12,((some 99),.op (.build [(.val (.int .i64 0)),(.val (.int .i64 0))] [(0,1,(.tmp 97)),(1,1,(.tmp 98))])),((some 100),.op (.bJ 1 2 [(.val (.int .i64 0)),(.val (.int .i64 0))] [(0,(.tmp 99))])),fD 101 2 16 96 100,aO 102 2 90 91,ao 103 1 102,cD 1 103 101]]),ab [aF 104 .add 48 1,aa 48 104]]
def yH:SC :=
 ae [ae [ab [aa 26 7,aa 27 5,aN 28 27,aQ 29 .lss 26 28],bX 29 (.exit 0)],.block 1 (ae [.region true [⟨none,[aZ 32 4 1,aZ 33 4 1,aa 34 5,aa 35 7,aO 36 2 34 35,ao 37 0 36,ak 38 37,bk 39 123 [33,38],bk 40 122 [32,39],aa 8 40]⟩],ae [ab [ao 41 0 1,ak 42 41,aN 43 42,ao 44 1 1,ak 45 44,aN 46 45,aQ 47 .add 43 46,aR 48 0],bZ 2 yF],ab [aa 105 5,aN 106 105,aF 107 .gtr 106 300],bb 107 (ae [ab [bT 2 1,aR 3 5],.ret])]),ab [aa 30 7,aF 31 .add 30 1,aa 7 31]]
def A7:SF:=⟨ae [ab [cF 1 0,bT 2 1,aR 3 0],ae [ab [aZ 14 4 1,bk 15 82 [14],c9 16 15],bb 16 (ae [ab [bT 2 1,aR 3 1],.ret])],ab [((some 17),.op (.build [(.val (.int .i64 0)),(.val (.int .i64 0))] [(0,1,(.val (.val (.int .i64 (-1)))))])),((some 18),.op (.bJ 1 2 [(.val (.int .i64 0)),(.val (.int .i64 0))] [(0,(.tmp 17))])),aa 4 18],ab [aa 19 4,((some 20),.op (.build [(.emp 1),(.emp 1)] [(0,1,(.tmp 19))])),((some 21),.op (.bJ 1 2 [(.emp 1),(.emp 1)] [(0,(.tmp 20))])),aa 5 21],ab [((some 22),.op (.rY)),aa 23 4,bk 24 121 [23],(none,.op (.old (.insert 208 (.tmp 22) (.tmp 24) (.const (.int .i64 0))) 0)),aa 25 22,aa 6 25],ae [ab [aR 7 0],bZ 0 yH],ab [aa 108 5,aa 2 108,aR 3 0],.ret],
 [.tmp 2,.tmp 3],109⟩
theorem Ee:aP Tryz.prog 60 [1]=some A7:=by kernel_rfl
def AbI (g:af) (m:Nat) (T:Env) (H:View):Prop:=∃ (at_:Nat) (u:V) (S:List qU) (out:List aJ) (q c:Nat) (M:cZ (List UInt8)),m+at_=302/\out=S.map (λx=>x.2.2)/\bq H ((u,2,fE S) :: nq S)/\en g at_ 0 out/\1<=out.length/\out.length<=300/\fN g m at_ out=aS g/\at_<=out.length /\
 H q=.map (cO iP M) c/\tx g out M/\T 1=.aL (ag g) 0/\T 5=u/\T 6=.mp q/\T 7=gi at_
theorem IC (g:af) (hg:g.Ok) (ff:g.Small):cK Tryz.prog 60 [.agg (ag g)] (.bf [bI (aS g).1,gi (aS g).2]):=by
 refine cK.of (eK g) ?_
 have dj:=YU g hg ff
 refine aw.of mixed Ee ?_
 simp only[ag,encS] at dj
 simp(disch:=omega)only[↓wr,seval,wq,A7,ag,encS]
 refine ax.pure dj ?_
 simp(disch:=omega)only[↓wr,seval,wq]
 apply aj.split<;>intro hr
 rotate_left
 .simp(disch:=omega)only[↓wr,seval,wq]
  intro h' _
  have e:aS g=([],1):=by unfold aS;rw[aaD (by rw[hr];simp)]
  rw[e]
  exact lu (.emp _)
 have N:g.cY:=mX hr
 have e0:fN g 302 0 eu=aS g:=by unfold aS;rw[aaF hr]
 have hT:=N.ai;have hN:=N.al
 simp(disch:=omega)only[↓wr,seval,wq]
 intro Y q2 O q3 dm
 have ca:cw g ⟨-1,0⟩:=(ma (g:=g)).bc ⟨[⟨-1,0⟩],[]⟩ (by simp[eu]) |>.2.2 _ (by simp)
 have o0:bq (((View.set (λ_=>dG.dead) Y (.arr 2 [[gi (-1),gi 0]])).set q2 (.arr 2 [[.sl Y 0 1 2,.emp 1]]))) ((.sl q2 0 1 2,2,fE [(.sl Y 0 1 2,.emp 1,⟨[⟨-1,0⟩],[]⟩)]) :: nq [(.sl Y 0 1 2,.emp 1,⟨[⟨-1,0⟩],[]⟩)]) :=
  (((bq.nil.emp (k:=1) (sz:=2)).new (n:=Y) rfl 2 [[gi (-1),gi 0]]).new (by simpa [View.set] using O) 2 [[.sl Y 0 1 2,.emp 1]])
 have o1:=o0.fresh (n:=q3) (by simpa [View.set] using dm) (o:=.map [] 0)
 have b3:((((View.set (λ_=>dG.dead) Y (.arr 2 [[gi (-1),gi 0]])).set q2 (.arr 2 [[.sl Y 0 1 2,.emp 1]])).set q3 (.map [] 0))) q3=.map (cO iP []) 0:=by simp[View.set,cO]
 generalize (((View.set (λ_=>dG.dead) Y (.arr 2 [[gi (-1),gi 0]])).set q2 (.arr 2 [[.sl Y 0 1 2,.emp 1]])).set q3 (.map [] 0))=H3 at o1 b3 ⊢
 clear o0 O dm
 have ds:aT H3 (.sl Y 0 1 2) 2 (aV [⟨-1,0⟩]):=o1.1 _ (aaV _ (acx ..))
 refine ax.eM ((Li g N [⟨-1,0⟩] (λx Z=>by simp at Z;subst Z;exact ca) (by simp) (.sl Y 0 1 2) H3 ds).mono ?_)
 rintro r H4 ⟨rfl,k4⟩
 have cu:H4 q3=.map (cO iP []) 0:=by rw[k4 q3 (by rw[b3];simp),b3]
 simp(disch:=omega)only[↓wr,seval,wq,XT]
 refine yj (kt:=9) (et:=3) (by kernel_rfl) (KI Tryz.underlying9) (id:=q3) (c:=0) (m:=[]) (k:=gH [⟨-1,0⟩]) (v:=gi 0) (by simp(disch:=omega)only[↓wr,seval,wq]) (by simp(disch:=omega)only[↓wr,seval,wq]) rfl cu ?_
 intro L
 have dv:tx g eu (bV (gH [⟨-1,0⟩]) (gi 0) 0 []):=tx.put (out:=[]) N (λl _=>by simp[getM,findD]) (λx Z=>by simp at Z;subst Z;exact ca) (by simp[findD]) 0
 have o2:=(o1.stay k4).Ew cu (o:=.map (cO iP (bV (gH [⟨-1,0⟩]) (gi 0) 0 [])) L)
 have cv:(H4.set q3 (.map (cO iP (bV (gH [⟨-1,0⟩]) (gi 0) 0 [])) L)) q3=.map (cO iP (bV (gH [⟨-1,0⟩]) (gi 0) 0 [])) L:=by simp[View.set]
 generalize H4.set q3 (.map (cO iP (bV (gH [⟨-1,0⟩]) (gi 0) 0 [])) L)=H5 at o2 cv ⊢
 clear cu b3 k4 ds o1
 clear H4 H3
 simp(disch:=omega)only[↓wr,seval,wq]
 refine ba.intro (AbI g) 302 ⟨0,_,_,eu,q3,L,_,rfl,rfl,o2,ma,aaM _,by simp[eu],e0,by omega,cv,dv,rfl,rfl,rfl,rfl⟩ ?_
 clear o2 cv dv
 clear H5 Y q2 q3 L
 rintro m T H ⟨at_,u,S,out,q,c,M,hm,rfl,P,hI,h1,cc,hl,hle,w,G,t1,t5,t6,t7⟩
 have a6:cT u=some S.length:=by rw[P.head.len,dC]
 simp only[aaJ] at h1 cc hle
 simp(disch:=omega)only[↓wr,seval,wq,yH,t1,t5,t6,t7,a6]
 apply aj.dec<;>intro hc
 rotate_left
 .simp(disch:=omega)only[↓wr,seval,wq,t5]
  have e1:aS g=(S.map (λx=>x.2.2),0):=by
   rw[<-hl]
   cases m with
   | zero=>rfl
   | succ m=>rw[fN,aaD (by simp;omega)]
  rw[e1]
  rintro h' rfl
  exact lu (F2 P.head λx Z=>⟨P.1 _ (aaV _ (pq Z).1),P.1 _ (aaV _ (pq Z).2)⟩)
 obtain⟨m,rfl⟩:∃ q,m=q+1:=⟨m - 1,by omega⟩
 have a7:at_ < S.length:=by omega
 obtain⟨d,x,t,rfl,an,Z⟩:=zR a7
 have cC:x∈d ++ x :: t:=by simp
 obtain⟨ea,fl,a8⟩:=hI.bc x.2.2 (List.mem_map_of_mem cC)
 have fm:=gR N ea a8
 have hh:aT H u 2 (fE (d ++ x :: t)):=P.head
 obtain⟨id,hu,C⟩:=hh.sl (by rw[dC];omega)
 have bd:(fE (d ++ x :: t)).getD at_ []=[x.1,x.2.1]:=by simp[fE,aaA,<-an]
 have eb:cJ g ((List.map (λx=>x.2.2) (d ++ x :: t)).getD at_ bC).bc=cJ g x.2.2.bc:=by
  rw[aaA,aaE,Z];rfl
 have cf:=λn hn=>en.row (hI.nB N (show at_ < ((d ++ x :: t).map λx=>x.2.2).length by simpa using a7)).1 (hI.nB N (show at_ < ((d ++ x :: t).map λx=>x.2.2).length by simpa using a7)).2 hI n hn
 rw[fN,aaF (by simpa using a7),xg] at hl
 rw[eb] at hl cf
 have ec:=kQ g x.2.2.bc
 have cN:∀ y∈cJ g x.2.2.bc,cw g y:=λy hy=>((dc N a8).1 hy).has a8
 rw[dC] at hu
 simp(disch:=omega)only[↓wr,seval,wq,t1,t5,t7,hu,C,bd,ag,encS]
 refine⟨by omega,by rw[dC];omega,?_⟩
 refine ax.GJ (L8 g N x.2.2.bc a8 (by omega) x.1 H (P.1 _ (aaV _ (pq cC).1))) ?_
 intro r H2 or fr
 simp(disch:=omega)only[↓wr,seval,wq,ag,encS]
 have hd:=gR N ec cN
 refine ax.still (UX g N (cJ g x.2.2.bc) cN (by omega) r H2 or) (λr H' h=>by obtain⟨q,A,_,h⟩:=h;exact h.old) ?_
 rintro r2 H6 ⟨U,A,rfl,D⟩
 have cS:∀ id,H id≠.dead->H6 id=H id:=λid C=>by rw[D.old id (by rw[(fr id C).1];exact C),(fr id C).1]
 have cg:H6 q=.map (cO iP M) c:=by rw[cS q (by rw[w];simp),w]
 have o6:bq H6 ((u,2,fE (d ++ x :: t)) :: (nq (d ++ x :: t) ++ jY g (cJ g x.2.2.bc) (A.filter λy=>decide (((0:Nat):Int)<=y.1)))):=by
  have hA:A.filter (λy=>decide (((0:Nat):Int)<=y.1))=A:=List.filter_eq_self.2 λy hy=>by simpa using (D.ne y hy).1
  rw[hA]
  refine(P.stay cS).join (M:=jY g (cJ g x.2.2.bc) A) D.own λa ha b hb id h1 h2=>?_
  obtain⟨y,hy,rfl⟩:=aaX.1 hb
  have h3:=D.new y hy id h2
  have h4:=P.live ha h1
  rw[(fr id h4).1] at h3
  exact h4 h3
 obtain⟨cA,Q⟩:=D.mp
 have hAnd:=D.nd
 have fs:U≠q:=by
  rintro rfl
  have:=D.q0
  rw[(fr _ (by rw[w];simp)).1,w] at this;simp at this
 have bl:∀ k:Nat,(getM A (k:Int)=none->bA g (cJ g x.2.2.bc) (bh g k)=[]):=λk h=>ace λaq=>getM_none.1 h (D.all k aq)
 clear or fr C bd eb Z cS D w
 generalize cJ g x.2.2.bc=cl at *
 generalize E:(d ++ x :: t).map (λx=>x.2.2)=bn at *
 have ee:bn.length=(d ++ x :: t).length:=by rw[<-E];simp
 simp(disch:=omega)only[↓wr,seval,wq,t1,t5,t6,t7,ag,encS]
 refine ba.up (g.ai.length+g.al.length) (λi T H'=>∃ (u:V) (S:List qU) (M:cZ (List UInt8)) (c:Nat),S.map (λx=>x.2.2)=(List.range i).foldl (dw g cl at_) bn/\bq H' ((u,2,fE S) :: (nq S ++ jY g cl (A.filter λy=>decide (((i:Nat):Int)<=y.1)))) /\
  H' U=.map (cO (Value.int .i64) A) cA/\H' q=.map (cO iP M) c/\tx g (S.map λx=>x.2.2) M/\T 1=.aL (ag g) 0/\T 5=u/\T 6=.mp q/\T 7=gi at_/\T 8=.mp U/\T 47=gi ((g.ai.length+g.al.length:Nat):Int)/\T 48=gi i)
  ⟨u,_,M,c,E,o6,Q,cg,by rw[E];exact G,t1,by rw[<-hu];exact t5,t6,t7,rfl,?_,rfl⟩ ?_
 .push_cast;rfl
 rw[<-ee] at h1 cc hle a7
 clear o6 P hh hu t1 t5 t6 t7 a6 E cC ee hc ea fl a8 fm an Q cg G
 clear u H H2 H6 T id d x t M c r
 rintro i k T H' hk ⟨u,S,M,c,hA,P,Q,w,G,t1,t5,t6,t7,t8,t47,t48⟩
 obtain⟨iI,eg,ei⟩:=cf i (by omega)
 rw[<-hA] at iI eg ei
 rw[aaJ] at eg ei
 have a6:cT u=some S.length:=by rw[P.head.len,dC]
 simp(disch:=omega)only[↓wr,seval,wq,yF,t1,t5,t6,t7,t8,t47,t48]
 apply aj.dec<;>intro hc
 rotate_left
 .have hi:i=g.ai.length+g.al.length:=by omega
  subst hi
  rw[<-hA] at hl
  simp(disch:=omega)only[↓wr,seval,wq,t1,t5,t6,t7,a6]
  apply aj.dec<;>intro h3
  .simp(disch:=omega)only[↓wr,seval,wq]
   intro h' _
   rw[aaF (by rw[aaJ];omega)] at hl
   rw[<-hl]
   exact lu (.emp _)
  .simp(disch:=omega)only[↓wr,seval,wq,t1,t5,t6,t7]
   rw[aaD (by rw[aaJ];omega)] at hl
   exact⟨m,by omega,at_+1,u,S,_,q,c,M,by omega,rfl,P.sub (List.Sublist.cons_cons _ (List.sublist_append_left _ _)),iI.next,by rw[aaJ];omega,by rw[aaJ];omega,hl,by rw[aaJ];omega,w,G,t1,t5,t6,rfl⟩
 have ft:i < g.ai.length+g.al.length:=by omega
 have hj:=Fi N ft
 have br:(List.range (i+1)).foldl (dw g cl at_) bn=dw g cl at_ (S.map λx=>x.2.2) i:=by rw[abH,abR,<-hA];rfl
 have ek:aT H' ((getM A (i:Int)).getD (.emp 1)) 2 (aV (bA g cl (bh g i))):=by
  cases hg:getM A (i:Int) with
  | none=>rw[bl i hg];exact .nil
  | some v =>
   obtain⟨b,hp⟩:=JD hAnd hg
   refine P.1 (v,2,aV (bA g cl (bh g i))) (aaV _ (List.mem_append_right _ (aaX.2 ⟨((i:Int),v,b),hp.mem_iff.2 (by simp),?_⟩)))
   simp
 have ch:(jY g cl (A.filter λy=>decide (((i+1:Nat):Int)<=y.1))).Sublist (jY g cl (A.filter λy=>decide (((i:Nat):Int)<=y.1))):=by
  have:A.filter (λy=>decide (((i+1:Nat):Int)<=y.1))=(A.filter (λy=>decide (((i:Nat):Int)<=y.1))).filter (λy=>decide (((i+1:Nat):Int)<=y.1)):=by
   rw[List.filter_filter]
   refine List.filter_congr λy _=>?_
   rw[<-Bool.decide_and,decide_eq_decide];omega
  rw[this]
  exact(List.filter_sublist).map _
 simp(disch:=omega)only[↓wr,seval,wq,t8,t48]
 refine Cd (kt:=3) (et:=103) (z:=.emp 1) (by kernel_rfl) (by kernel_rfl) (my .i64 Tryz.underlying3) (id:=U) (c:=cA) (m:=A) (k:=(i:Int)) (by simp(disch:=omega)only[↓wr,seval,wq]) (by simp(disch:=omega)only[↓wr,seval,wq]) Q ?_
 simp(disch:=omega)only[↓wr,seval,wq]
 refine ax.eM ((RN (Ip (bh g i) ec) (by have:=uL (g:=g) (l:=cl) (s:=bh g i);omega) _ H' ek).mono ?_)
 rintro r _ ⟨rfl,or,eH⟩
 have hq:=uL (g:=g) (l:=cl) (s:=bh g i)
 have b4:=Jv (s:=bh g i) cN
 have fx:cT r=some (bA g cl (bh g i)).length:=by rw[or.len,bG]
 simp(disch:=omega)only[↓wr,seval,wq,fx]
 apply aj.eq<;>intro he
 .have eX:bA g cl (bh g i)=[]:=abU.1 (by omega)
  simp(disch:=omega)only[↓wr,seval,wq,t1,t5,t6,t7,t8,t47,t48]
  exact aG hk (by omega) ⟨u,S,M,c,by rw[br,dw,aaF eX],P.sub (List.Sublist.cons_cons _ (ch.append_left _)),Q,w,G,t1,t5,t6,t7,t8,t47,rfl⟩
 have aq:bA g cl (bh g i)≠[]:=λe=>he (by rw[e];rfl)
 have fz:∃ v,getM A (i:Int)=some v:=by
  cases hg:getM A (i:Int) with
  | none=>exact absurd (bl i hg) aq
  | some v=>exact⟨v,rfl⟩
 obtain⟨v,hg⟩:=fz
 have cV:=eH aq
 rw[hg] at cV
 simp only[aaU] at cV
 obtain⟨b,c3⟩:=JD hAnd hg
 have b5:(jY g cl (A.filter λy=>decide (((i:Nat):Int)<=y.1))).Perm ((r,2,aV (bA g cl (bh g i))) :: jY g cl (A.filter λy=>decide (((i+1:Nat):Int)<=y.1))):=by
  have:=c3.map (λx:Int × V × Nat=>((x.2.1,2,aV (bA g cl (bh g x.1.toNat))):dH))
  simp only[aa9,aa0] at this
  rw[cV];exact this
 have gd:=zg (S.map λx=>x.2.2) (bA g cl (bh g i))
 have ht:=uO (S.map λx=>x.2.2) (bA g cl (bh g i))
 rw[aaJ] at gd
 have b7:=G (bA g cl (bh g i)) b4
 have e3:at_ < S.length:=by omega
 obtain⟨d,x,t,I,an,Z⟩:=zR e3
 have hv:x.2.2.bO.length<=40:=(iI.bO at_ x.2.2 (by rw[aaE,Z];rfl)).1
 have bd:∀ B,(fE (d ++ x :: B)).getD at_ []=[x.1,x.2.1]:=λB=>by simp[fE,aaA,<-an]
 have e4:∀ (B:List qU) (c:fp),((d ++ x :: B).map λx=>x.2.2).modify at_ (λs=>(⟨s.bc,s.bO ++ [c]⟩:aJ))=(d ++ (x.1,x.2.1,(⟨x.2.2.bc,x.2.2.bO ++ [c]⟩:aJ)) :: B).map λx=>x.2.2:=λB c=>by
  rw[aaW,aa9,<-an,<-aaJ (f:=λx:qU=>x.2.2),Fp,aaW,aa9]
 simp(disch:=omega)only[↓wr,seval,wq,t1,t5,t6,t7,t8,ag,encS]
 apply aj.dec<;>intro gk
 simp(disch:=omega)only[↓wr,seval,wq,t1,t5,t6,t7,t8,ag,encS]
 have hs:bh g i=(g.ai.length:Int) - 1 - i:=by unfold bh;rw[aaD (by omega)];omega
 generalize (g.ai.length:Int) - 1 - (i:Int)=sv at hs ⊢
 rotate_left
 simp(disch:=omega)only[↓wr,seval,wq,t1,t5,t6,t7,t8,ag,encS]
 have hs:bh g i=(i:Int):=by unfold bh;rw[aaF (by omega)]
 generalize ((i:Nat):Int)=sv at hs ⊢
 all_goals (
  refine ax.eM ((Li g N (bA g cl (bh g i)) b4 (by omega) r H' or).mono ?_)
  rintro rk H3 ⟨rfl,k3⟩
  have W:H3 q=.map (cO iP M) c:=by rw[k3 q (by rw[w];simp),w]
  have bs:H3 U=.map (cO (Value.int .i64) A) cA:=by rw[k3 U (by rw[Q];simp),Q]
  have o3:=P.stay k3
  have gl:aT H3 r 2 (aV (bA g cl (bh g i))):=or.keep λid C=>k3 id (by rw[(or.live C).1];simp)
  simp(disch:=omega)only[↓wr,seval,wq,t6]
  refine WC (kt:=9) (et:=3) (z:=gi 0) (by kernel_rfl) (by kernel_rfl) (KI Tryz.underlying9) (id:=q) (c:=c) (m:=M) (k:=gH (bA g cl (bh g i))) (by simp(disch:=omega)only[↓wr,seval,wq]) (by simp(disch:=omega)only[↓wr,seval,wq]) W ?_
  by_cases J:findD (S.map λx=>x.2.2) (bA g cl (bh g i)) < 0
  rw[aaF J] at b7
  rw[b7]
  simp only[Option.getD_none,Option.isSome_none]
  simp(disch:=omega)only[↓wr,seval,wq,t1,t5,t6,t7,t8,a6]
  refine ax.eM ((Li g N (bA g cl (bh g i)) b4 (by omega) r H3 gl).mono ?_)
  rintro hz H4 ⟨rfl,k4⟩
  have bx:H4 q=.map (cO iP M) c:=by rw[k4 q (by rw[W];simp),W]
  have cj:H4 U=.map (cO (Value.int .i64) A) cA:=by rw[k4 U (by rw[bs];simp),bs]
  have o4:=o3.stay k4
  simp(disch:=omega)only[↓wr,seval,wq,t6]
  refine yj (kt:=9) (et:=3) (by kernel_rfl) (KI Tryz.underlying9) (id:=q) (c:=c) (m:=M) (k:=gH (bA g cl (bh g i))) (v:=gi S.length) (by simp(disch:=omega)only[↓wr,seval,wq]) (by simp(disch:=omega)only[↓wr,seval,wq]) (by simp(disch:=omega)only[↓wr,seval,wq]) bx ?_
  intro L
  have R:tx g ((d ++ x :: (t ++ [(r,.emp 1,(⟨bA g cl (bh g i),[]⟩:aJ))])).map λx=>x.2.2) (bV (gH (bA g cl (bh g i))) (gi S.length) c M):=by
   have:=tx.put N G b4 J c
   rw[aaJ] at this
   refine this.same ?_
   rw[I];simp
  have K:(H4.set q (.map (cO iP (bV (gH (bA g cl (bh g i))) (gi S.length) c M)) L)) q=.map (cO iP (bV (gH (bA g cl (bh g i))) (gi S.length) c M)) L:=by simp[View.set]
  have X:(H4.set q (.map (cO iP (bV (gH (bA g cl (bh g i))) (gi S.length) c M)) L)) U=.map (cO (Value.int .i64) A) cA:=by
   simp only[View.set];rw[aaD fs];exact cj
  have o5:=o4.Ew bx (o:=.map (cO iP (bV (gH (bA g cl (bh g i))) (gi S.length) c M)) L)
  generalize H4.set q (.map (cO iP (bV (gH (bA g cl (bh g i))) (gi S.length) c M)) L)=H5 at K X o5 ⊢
  clear bx cj o4 k4
  generalize bV (gH (bA g cl (bh g i))) (gi S.length) c M=M2 at R K
  simp(disch:=omega)only[↓wr,seval,wq,t1,t5,t6,t7,t8,or.cells,or.fL]
  intro q5 b0
  simp(disch:=omega)only[↓wr,seval,wq,bz]
  have ar:∀ b,H5 b≠.dead->b≠q5:=λb hb e=>hb (by rw[e];exact b0)
  refine b6 (o5.fresh b0) (by simp[or.fL,Cm]) (by unfold aC;rw[dC];simp;omega) (by unfold aC;rw[dC];simp;omega) ?_
  intro u2 b8 e5 c4
  have j:=c4.map (o5.fresh (o:=.arr 2 [[r,.emp 1]]) b0).head (b:=q) (c:=L) (es:=cO iP M2) (by simp only[View.set];rw[aaD (ar q (by rw[K];simp)),K])
  have F:=c4.map (o5.fresh (o:=.arr 2 [[r,.emp 1]]) b0).head (b:=U) (c:=cA) (es:=cO (Value.int .i64) A) (by simp only[View.set];rw[aaD (ar U (by rw[X];simp)),X])
  have e6:=(e5.emp (k:=1) (sz:=2)).perm (YY b5)
  have a1:dw g cl at_ (S.map λx=>x.2.2) i=((d ++ x :: (t ++ [(r,.emp 1,(⟨bA g cl (bh g i),[]⟩:aJ))])).map λx=>x.2.2).modify at_ (λs=>(⟨s.bc,s.bO ++ [⟨bh g i,(S.length:Int)⟩]⟩:aJ)):=by
   rw[dw,aaD aq,aaF J,aaJ]
   congr 1
   rw[I];simp
  have p:bq b8 ((u2,2,fE (d ++ x :: (t ++ [(r,.emp 1,(⟨bA g cl (bh g i),[]⟩:aJ))]))) :: (nq (d ++ x :: (t ++ [(r,.emp 1,(⟨bA g cl (bh g i),[]⟩:aJ))])) ++ jY g cl (A.filter λy=>decide (((i+1:Nat):Int)<=y.1)))):=by
   have e1:fE (d ++ x :: (t ++ [(r,.emp 1,(⟨bA g cl (bh g i),[]⟩:aJ))]))=fE S ++ [[r,.emp 1]]:=by rw[I];simp[fE]
   have e2:nq (d ++ x :: (t ++ [(r,.emp 1,(⟨bA g cl (bh g i),[]⟩:aJ))]))=nq S ++ [(r,2,aV (bA g cl (bh g i))),(.emp 1,2,[])]:=by rw[I];simp[nq];rfl
   rw[e1,e2]
   exact e6
  have da:(d ++ x :: (t ++ [(r,V.emp 1,(⟨bA g cl (bh g i),[]⟩:aJ))])).length<=400:=by
   have:=abN List.length I
   simp at this ⊢;omega
  generalize (t ++ [(r,V.emp 1,(⟨bA g cl (bh g i),[]⟩:aJ))])=B at a1 p R da
  generalize (S.length:Int)=to at a1 ⊢
  clear e5 e6 c4 K X o5 ar b0
  rotate_left
  rw[aaD J] at b7
  rw[b7]
  simp only[aaU,Option.isSome_some]
  simp(disch:=omega)only[↓wr,seval,wq,t1,t5,t6,t7,t8]
  have a1:dw g cl at_ (S.map λx=>x.2.2) i=((d ++ x :: t).map λx=>x.2.2).modify at_ (λs=>(⟨s.bc,s.bO ++ [⟨bh g i,findD (S.map λx=>x.2.2) (bA g cl (bh g i))⟩]⟩:aJ)):=by
   rw[dw,aaD aq,aaD J,<-I]
  have p:=o3.sub (List.Sublist.cons_cons _ (ch.append_left _))
  have R:=G
  have da:(d ++ x :: t).length<=400:=by rw[<-I];omega
  have j:=W
  have F:=bs
  generalize H3=b8 at p j F ⊢
  generalize u=u2 at p t5 ⊢
  rw[I] at p R
  generalize findD (S.map λx=>x.2.2) (bA g cl (bh g i))=to at a1 ⊢
  generalize t=B at a1 p R da
  generalize M=M2 at j R
  generalize c=L at j
  all_goals (
   obtain⟨id,hu,C⟩:=(show aT b8 u2 2 (fE (d ++ x :: B)) from p.head).sl (by rw[dC];simp;omega)
   rw[dC] at hu
   rw[Cx] at p
   simp only[abl,abk] at p
   simp(disch:=omega)only[↓wr,seval,wq,t1,t5,t6,t7,t8,hu,C,bd B]
   refine⟨by simp;omega,by rw[dC];simp;omega,?_⟩
   intro q2 O
   have ar:∀ b,b8 b≠.dead->b≠q2:=λb hb e=>hb (by rw[e];exact O)
   simp(disch:=omega)only[↓wr,seval,wq,bz]
   refine b6 ((p.perm Jf).fresh O) (by simp[aI]) (by unfold aC;simp[jL];omega) (by unfold aC;simp[jL];omega) ?_
   intro e2 e7 b9 e8
   have b1:=e8.map ((p.perm Jf).fresh (o:=.arr 2 [[gi sv,gi to]]) O).head (b:=q) (c:=L) (es:=cO iP M2) (by simp only[View.set];rw[aaD (ar q (by rw[j];simp)),j])
   have b2:=e8.map ((p.perm Jf).fresh (o:=.arr 2 [[gi sv,gi to]]) O).head (b:=U) (c:=cA) (es:=cO (Value.int .i64) A) (by simp only[View.set];rw[aaD (ar U (by rw[F];simp)),F])
   have ck:e7 id=.arr 2 (fE (d ++ x :: B)):=((b9.own 1 rfl).live (by rw[hu];rfl)).1
   simp(disch:=omega)only[↓wr,seval,wq,t1,t5,t6,t7,t8,t47,t48,hu,ck,bd B,b9.head.cells,b9.head.fL]
   have e9:(fE (d ++ x :: B)).set at_ [x.1,e2]=fE (d ++ (x.1,e2,(⟨x.2.2.bc,x.2.2.bO ++ [⟨bh g i,to⟩]⟩:aJ)) :: B):=by
    rw[<-an];simp[fE]
   have gr:jL (x.2.2.bO ++ [⟨bh g i,to⟩])=jL x.2.2.bO ++ [[gi sv,gi to]]:=by rw[hs];simp[jL,kc]
   have fb:=b9.perm (.swap _ _ _)
   rw[hu] at fb
   have db:=((fb.put (es':=fE (d ++ (x.1,e2,(⟨x.2.2.bc,x.2.2.bO ++ [⟨bh g i,to⟩]⟩:aJ)) :: B)) (by rw[dC,dC];simp) (by rw[dC])).perm (.swap _ _ _)).perm Jf.symm
   rw[<-gr] at db
   rw[<-hu] at db
   rw[e9]
   have cr:∀ b c es,e7 b=.map es c->b≠id:=λb c es hb e=>by rw[e,ck] at hb;simp at hb
   refine⟨by simp;omega,by rw[dC];simp;omega,aG hk (by omega) ⟨u2,_,M2,L,?_,by rw[Cx];simp only[abl,abk];exact db,?_,?_,?_,t1,by first | rfl | exact t5 | exact hu.symm,t6,t7,t8,t47,rfl⟩⟩
   .rw[br,a1,e4];simp
   .simp only[View.set];rw[aaD (cr U _ _ b2)];exact b2
   .simp only[View.set];rw[aaD (cr q _ _ b1)];exact b1
   .refine R.same ?_
    simp))
abbrev tg (g:af) (a:List aJ) (q:Nat) (us uf:V):List V:=[V.aU (g.ai.map dg),.aU (g.al.map λs=>[gs s]),.aU (g.rules.map bg),gi g.start,bI a,.mp q,us,uf]
def vU (H:View) (u:V) (l:List Int):Prop:=u=encI l∨∃ n x d,u=.sl n d l.length 1/\H n=.arr 1 [[gi x]]/\d<=1/\l=[x].drop d
theorem vU.pK {H:View} {u:V} {l:List Int} (h:vU H u l):cR H u (encI l):=by
 rcases h with rfl | ⟨n,x,d,rfl,c,f,a⟩
 .exact .tree (cx l)
 .have g:l.length=1 - d:=by rw[a];simp
  have:=cR.sl (off:=d) (len:=l.length) (esz:=1) c (by simp;omega) (by intro e he v b;simp at he;subst he;simp at b;subst b;exact .val _)
  rw[show (List.drop d [[gi x]]).take l.length=bH l by
   rw[a]
   match d,f with
   | 0,_=>rfl
   | 1,_=>rfl] at this
  exact this
theorem vU.keep {H H':View} {u:V} {l:List Int} (h:vU H u l) (hk:∀ id,H id≠.dead->H' id=H id):vU H' u l:=by
 rcases h with rfl | ⟨n,x,d,h1,a,b,c⟩
 .exact .inl rfl
 .exact .inr ⟨n,x,d,h1,by rw[hk n (by rw[a];simp)];exact a,b,c⟩
def pZ:SF:=⟨ae [ab [cF 3 1,bT 4 1],ae [ab [ao 5 0 3,ak 6 5,aF 7 .lss 6 0],bb 7 (ae [ab [aa 8 0,fh 9 8,ao 10 0 9,ao 11 3 10,ak 12 11,((some 13),.op (.arith .sub (.val (.val (.int .i64 (-1)))) (.tmp 12))),((some 14),.op (.bJ 1 1 [(.val (.int .i64 0))] [(0,(.tmp 13))])),ao 15 1 3,ak 16 15,((some 17),.op (.slice 1 (.tmp 14) (some (.tmp 16)) none)),aa 4 17],.ret])],ab [aa 18 0,fh 19 18,ao 20 0 19,ao 21 2 20,ak 22 21,ao 23 0 3,ak 24 23,aO 25 3 22 24,ao 26 1 25,ak 27 26,ao 28 1 3,ak 29 28,((some 30),.op (.slice 1 (.tmp 27) (some (.tmp 29)) none)),aa 4 30],.ret],
 [.tmp 4],31⟩
theorem vD:aP Tryz.prog 127 [3]=some pZ:=by kernel_rfl
def qB:SF:=⟨ae [ab [cF 3 1],ae [.Cn (212,7,9) [] [⟨none,[aa 4 0,fh 5 4,ao 6 5 5,ak 7 6,ao 8 0 3,aZ 9 3 8,((some 10),.op (.old (.lookup 212 (.tmp 7) (.tmp 9) false) 3)),aF 11 .add 10 1,((some 12),.op (.old (.mapEntry 212 (.tmp 7) (.tmp 9)) 0)),dr 13 1 12,(none,.op (.old (.entryStore 212 (.tmp 7) (.tmp 13) (.tmp 11)) 0))]⟩],ab [aa 14 0,fh 15 14,ao 16 5 15,ak 17 16,ao 18 0 3,aZ 19 3 18,((some 20),.op (.old (.lookup 212 (.tmp 17) (.tmp 19) false) 3)),aF 21 .gtr 20 1],bb 21 (.ret)],ae [ab [aa 22 0,fh 23 22,ao 24 7 23,ak 25 24,ao 26 0 3,ao 27 0 26,ak 28 27,aO 29 1 25 28,ak 30 29,aF 31 .lss 30 0],bb 31 (ab [aa 32 0,fh 33 32,ao 34 7 33,ak 35 34,ao 36 0 3,ao 37 0 36,ak 38 37,aa 39 0,fh 40 39,ao 41 6 40,ak 42 41,aN 43 42,aO 44 1 35 38,cD 1 44 43])],ab [aa 45 0,aa 46 0,fh 47 46,ao 48 6 47,ak 49 48,aZ 50 5 3,((some 51),.op (.bJ 1 5 [(.val (.int .i64 0)),(.val (.int .i64 0)),(.val (.int .i64 0)),(.emp 1),(.emp 1)] [(0,(.tmp 50))])),fD 52 5 72 49 51,fh 53 45,ao 54 6 53,cD 1 54 52]],
 [],55⟩
theorem vC:aP Tryz.prog 125 [3,100000]=some qB:=by kernel_rfl
theorem MZ (g:af) (o:bM (-1 - g.start)) (a:List aJ) (q:Nat) (us p:V) (b:Nat) (H:View) (j:H b=.arr 8 [tg g a q us p]) (x:ay) (s:cw g x) :
  aw Tryz.prog 127 [.ptr b 0 0,.agg (bu x)] H λr H'=>vU H' r (fW g x)/\c8 H H' r:=by
 obtain⟨⟨v,w⟩,y,c⟩:=s
 unfold bM at o
 refine aw.of mixed vD ?_
 simp(disch:=omega)only[↓wr,seval,wq,pZ,bu]
 obtain⟨d,f⟩:∃ d:Nat,x.dot=d:=⟨x.dot.toNat,by omega⟩
 unfold fW
 unfold aM at c ⊢
 rw[f] at c ⊢
 rw[aa0]
 apply aj.dec<;>intro h1
 .rw[aaF (by omega)] at c ⊢
  simp at c
  simp(disch:=omega)only[↓wr,seval,wq,bu,j,f]
  intro n t
  simp(disch:=omega)only[↓wr,seval,wq,bu,f,qy (sz:=1) (id:=n) (off:=0) (k:=1) (m:=d) (by omega)]
  refine⟨.inr ⟨n,-1 - g.start,d,?_,by simp[View.set],by omega,rfl⟩,λid h=>?_⟩
  .simp
  .have e:¬ id=n:=by rintro rfl;exact h t
   exact⟨by simp[View.set,e],by simp[owner,Ne.symm e]⟩
 .rw[aaD (by omega)] at c ⊢
  have u:g.rules[x.au.toNat]?=some (aA g x.au):=by unfold aA;exact getD_some (by omega)
  have i:=yP (l:=(aA g x.au).right) (k:=d) (by omega)
  simp(disch:=omega)only[↓wr,seval,wq,bu,j,f,bg,encI,aaE,u,aaH,i]
  exact⟨.inl rfl,λ_ _=>⟨rfl,by simp[owner]⟩⟩
def I7 (m:cZ zd) (l:List bQ) (B:Nat):Prop:=∀ k:zd,∃ n:Nat,(getM m k).getD (gi 0)=gi n/\n<=B/\(n=0↔∀ x∈l,jj x≠k)
def fu (a:List aJ) (l:List bQ):List Int:=(List.range a.length).map λ(i:Nat)=>gM l i 0
structure ZY (H:View) (b:Nat) (g:af) (a:List aJ) (l:List bQ) (B:Nat) (q:Nat) (us uf:V) (S:List vo) (m:cZ zd) (c:Nat) (K:List dH):Prop where
 own:bq H ((us,5,S.map jE) :: (uf,1,bH (fu a l)) :: (.sl b 0 1 8,8,[tg g a q us uf]) :: K)
 map:H q=.map (dx u9 m) c
 born:mP m c
 seen:I7 m l B
 is:S.map vo.n=l
 ok:∀ y∈S,y.Ok
def fJ (H:View) (b:Nat) (g:af) (a:List aJ) (l:List bQ) (B:Nat) (K:List dH):Prop:=∃ q us uf S m c,ZY H b g a l B q us uf S m c K
theorem yU (i:Int):∀ (l:List bQ) (n:Nat),gM l i n < 0->gM l i n = -1
 | [],_,_=>rfl
 | x :: l,n,h=>by
  rw[gM] at h ⊢
  split
  .rename_i e;rw[aaF e] at h;omega
  .rename_i e;rw[aaD e] at h;exact yU i l (n+1) h
theorem HT (i:Int):∀ (l:List bQ) (n:Nat),gM l i n < (n+l.length:Nat)
 | [],n=>by rw[gM];omega
 | x :: l,n=>by
  rw[gM]
  split
  .simp only[aaN];omega
  .have:=HT i l (n+1)
   simp only[aaN];omega
theorem JG {l:List bQ} {x:bQ} : l.any (tO x)=true↔∃ y∈l,jj y=jj x:=by
 rw[acG]
 refine⟨λ⟨y,a,h⟩=>⟨y,a,?_⟩,λ⟨y,a,h⟩=>⟨y,a,?_⟩⟩
 .rw[<-HD,abB] at h;exact h.symm
 .rw[<-HD,abB];exact h.symm
theorem I7.put {m:cZ zd} {l:List bQ} {B c c0:Nat} (h:I7 m l B) (x:bQ) {n:Nat} (g:(getM m (jj x)).getD (gi 0)=gi n) (v:V):I7 (bV (jj x) (gi (n+1:Nat)) c0 (bV (jj x) v c m)) (lz l x) (B+1):=by
 intro k
 obtain⟨j,h1,p,i⟩:=h k
 rw[ry]
 have hm:∀ z,z∈lz l x↔z∈l∨(z=x/\l.any (tO x)=false):=λz=>by
  unfold lz
  split
  .rename_i e;rw[e];simp
  .rename_i e;simp only[Bool.not_eq_true] at e;rw[e];simp
 by_cases e:k=jj x
 .subst e
  refine⟨n+1,by simp,?_,⟨λe=>by omega,λe=>?_⟩⟩
  .rw[g] at h1
   simp at h1
   omega
  .exfalso
   by_cases d:l.any (tO x)=true
   .obtain⟨y,o,hk⟩:=JG.1 d
    exact e y ((hm y).2 (.inl o)) hk
   .exact e x ((hm x).2 (.inr ⟨rfl,by simpa using d⟩)) rfl
 .have f:(k == jj x)=false:=by simpa using e
  refine⟨j,?_,by omega,i.trans ⟨λb z a=>?_,λb z a=>b z ((hm z).2 (.inl a))⟩⟩
  .rw[f]
   simp only[aba,if_false]
   rw[ry,f]
   simpa using h1
  .rcases (hm z).1 a with a | ⟨rfl,_⟩
   .exact b z a
   .exact Ne.symm e
theorem Qh {a:List aJ} {l:List bQ} {x:bQ} : fu a (l ++ [x])=if gM l x.st 0 < 0 then (fu a l).set x.st l.length else fu a l:=by
 unfold fu
 apply List.ext_getElem?
 intro i
 rw[aaE]
 by_cases hi:i < a.length
 .rw[aby hi,aaH,FN,abq]
  split
  .rename_i b
   by_cases e:x.st=i
   .subst e
    rw[aaF rfl,aaF b,ab6 (by simpa using hi)]
   .rw[aaD (by omega)]
    split
    .rw[List.getElem?_set_ne e,aaE,aby hi,aaH,yU _ _ _ b]
    .rw[aaE,aby hi,aaH,yU _ _ _ b]
  .rename_i c
   split
   .rename_i d
    have e:x.st≠i:=by rintro rfl;exact c d
    rw[List.getElem?_set_ne e,aaE,aby hi,aaH]
   .rw[aaE,aby hi,aaH]
 .rw[aa6 (by simpa using hi)]
  split
  .rw[aa6 (by simpa using hi)];rfl
  .rw[aa6 (by simpa using hi)];rfl
theorem R2 {H:View} {L:List dH} (h:bq H L) {q c:Nat} {es:List (V × V × Nat)} (a:H q=.map es c) {n k sz:Nat} {xs:List (List V)} (hm:(.sl n 0 k sz,sz,xs)∈L):n≠q:=by
 rintro rfl
 exact h.I5 a _ hm rfl
theorem Gn (g:af) (a:List aJ) (b:Nat) (l:List bQ) (B:Nat) (hB:B < 1000000000000) (hl:l.length<=90000) (x:vo) (hx:x.Ok) (an:x.n.st < a.length) (K:List dH) (H:View) (hW:fJ H b g a l B K) :
  aw Tryz.prog 125 [.ptr b 0 0,.agg (jE x)] H λ_ H'=>fJ H' b g a (lz l x.n) (B+1) K:=by
 obtain⟨q,us,uf,S,m,c,w⟩:=hW
 have D:fc Tryz.prog 212=some (218,3):=by kernel_rfl
 have hz:zeroV Tryz.prog 3=some (gi 0):=by kernel_rfl
 have j:=UR
 have O:=X4 hx
 obtain⟨⟨P,aq,_⟩,⟨Q,ar,_⟩⟩:=And.intro hx.a.fL hx.b.fL
 simp only[jE] at O
 obtain⟨n,d,bn,a1⟩:=w.seen (jj x.n)
 have hb:=w.own.is 2 rfl (by simp)
 have R:=w.map
 have T:¬ b=q:=λe=>by rw[e,R] at hb;simp at hb
 refine aw.of mixed vC ?_
 simp(disch:=omega)only[↓wr,seval,wq,qB,jE,P,aq,Q,ar,hb]
 refine Wd (kv:=u9) (kt:=218) (et:=3) (z:=gi 0) D hz j (id:=q) (c:=c) (m:=m) (k:=jj x.n) (by first | rfl | simp(disch:=omega)only[↓wr,seval,wq]) (by first | rfl | (simp(disch:=omega)only[↓wr,seval,wq];rfl)) R ?_
 rw[d]
 simp(disch:=omega)only[↓wr,seval,wq]
 refine Yu (kv:=u9) (kt:=218) (et:=3) (z:=gi 0) D hz j (id:=q) (c:=c) (m:=m) (k:=jj x.n) (by first | rfl | simp(disch:=omega)only[↓wr,seval,wq]) (by first | rfl | (simp(disch:=omega)only[↓wr,seval,wq];rfl)) R w.born λb1 p J L=>?_
 rw[d] at J L ⊢
 simp(disch:=omega)only[↓wr,seval,wq]
 have ek:V.val (.int .i64 ((n:Int)+1))=gi (n+1:Nat):=by simp
 refine Yn (kv:=u9) (id:=q) (c:=p) (b:=b1) (m:=bV (jj x.n) (gi n) c m) (k:=jj x.n) (v:=gi (n+1:Nat)) (by first | rfl | simp(disch:=omega)only[↓wr,seval,wq]) (by first | rfl | simp(disch:=omega)only[↓wr,seval,wq]) (by first | exact ek | (simp(disch:=omega)only[↓wr,seval,wq];exact ek)) (by simp[View.set]) J L λc0=>?_
 simp(disch:=omega)only[↓wr,seval,wq]
 refine⟨ZN (kv:=u9) (k:=jj x.n) D hz j R w.born,?_⟩
 rw[set_set]
 have r:=w.seen.put (c:=c) (c0:=c0) x.n d (gi n)
 have M:=J.X5 L (gi (n+1:Nat)) c0
 have G:getM (bV (jj x.n) (gi (n+1:Nat)) c0 (bV (jj x.n) (gi n) c m)) (jj x.n)=some (gi (n+1:Nat)):=by rw[ry];simp
 generalize bV (jj x.n) (gi (n+1:Nat)) c0 (bV (jj x.n) (gi n) c m)=m2 at r M G ⊢
 have s:=w.own.Ew R (o:=.map (dx u9 m2) p)
 have i:(H.set q (.map (dx u9 m2) p)) q=.map (dx u9 m2) p:=by simp[View.set]
 generalize View.set H q (.map (dx u9 m2) p)=H2 at s i ⊢
 have E:=s.is 2 rfl (by simp)
 simp only[aaD T,hb]
 simp(disch:=omega)only[↓wr,seval,wq,E]
 refine Wd (kv:=u9) (kt:=218) (et:=3) (z:=gi 0) D hz j (id:=q) (c:=p) (m:=m2) (k:=jj x.n) (by first | rfl | simp(disch:=omega)only[↓wr,seval,wq]) (by first | rfl | (simp(disch:=omega)only[↓wr,seval,wq];rfl)) i ?_
 rw[G,aaU]
 simp(disch:=omega)only[↓wr,seval,wq]
 have I:l.any (tO x.n)=true↔¬ n=0:=by
  rw[JG,a1]
  constructor
  .rintro⟨y,C,e⟩ h;exact h y C e
  .intro h
   refine abO λU=>h λy C e=>U ⟨y,C,e⟩
 apply aj.dec<;>intro h1
 .simp(disch:=omega)only[↓wr,seval,wq]
  have t:lz l x.n=l:=aaF (I.2 (by omega))
  rw[t] at r ⊢
  exact⟨q,us,uf,S,m2,p,s,i,M,r,w.is,w.ok⟩
 have t:lz l x.n=l ++ [x.n]:=aaD (λe=>by have:=I.1 e;omega)
 rw[t] at r ⊢
 have hlen:S.length=l.length:=by rw[<-w.is,aaJ]
 have u:(fu a l).length=a.length:=by simp[fu]
 obtain⟨N,W,hF⟩:=(s.own 1 rfl).sl (by simp[u];omega)
 rw[aaJ,u] at W
 subst W
 have X:(bH (fu a l)).getD x.n.st []=[gi (gM l x.n.st 0)]:=by
  rw[bH,aaA,aaE,fu,aaE,aby an];rfl
 have br:=HT x.n.st l 0
 have f:=Qh (a:=a) (l:=l) (x:=x.n)
 simp(disch:=omega)only[↓wr,seval,wq,E,hF,X,jE]
 refine⟨by omega,by simp[u];omega,?_⟩
 have a6:cT us=some S.length:=by rw[(s.own 0 rfl).len,aaJ]
 apply aj.dec<;>intro U
 focus
  rw[aaF U] at f
  simp(disch:=omega)only[↓wr,seval,wq,E,hF,X,jE,a6]
  refine⟨by omega,by simp[u];omega,?_⟩
  have Y:¬ b=N:=s.Ni 2 1 rfl rfl (by decide)
  have F:=((s.at 1 (by simp)).put (es':=bH ((fu a l).set x.n.st l.length)) (by simp) (by simp[u]))
  rw[<-f] at F
  have A:(H2.set N (.arr 1 (bH (fu a (l ++ [x.n]))))) q=.map (dx u9 m2) p:=by
   have:=R2 s i (aaV _ (acx ..))
   simp[View.set,Ne.symm this,i]
  rw[hlen,show (bH (fu a l)).set x.n.st [gi (l.length:Int)]=bH (fu a (l ++ [x.n])) by rw[f];exact acC.symm]
  simp only[abi,abf,abg,abh] at F
  generalize View.set H2 N (.arr 1 (bH (fu a (l ++ [x.n]))))=H3 at F A ⊢
  replace F:=F.perm (.swap _ _ _)
  simp only[aaD Y,E]
 rotate_left
 focus
  rw[aaD U] at f
  simp(disch:=omega)only[↓wr,seval,wq]
  rw[<-f] at s
  have F:=s
  have A:=i
  clear s i
  generalize H2=H3 at F A ⊢
 all_goals (
  have Z:=F.is 2 rfl (by simp)
  simp(disch:=omega)only[↓wr,seval,wq,Z,jE,P,Q]
  intro n1 d
  have bs:¬ b=n1:=by rintro rfl;rw[Z] at d;simp at d
  have a7:¬ q=n1:=by rintro rfl;rw[A] at d;simp at d
  have o4:=F.fresh (o:=.arr 5 [[gi x.n.st,gi x.n.it.au,gi x.n.it.dot,x.a,x.b]]) d
  simp(disch:=omega)only[↓wr,seval,wq,bz]
  refine b6 o4 O (by unfold aC;simp;omega) (by unfold aC;simp;omega) ?_
  intro u5 H5 o5 l5
  have a8:=o5.is 2 rfl (by simp)
  have bd:H5 q=.map (dx u9 m2) p:=l5.map (o4.own 0 rfl) (by simp[View.set,a7,A])
  have cu:=(o5.own 0 rfl).cells
  have ku:=(o5.own 0 rfl).fL
  simp(disch:=omega)only[↓wr,seval,wq,a8,cu,ku]
  have o6:=((o5.at 2 (by simp)).put (es':=[tg g a q u5 (.sl N 0 a.length 1)]) rfl rfl)
  have bl:(H5.set b (.arr 8 [tg g a q u5 (.sl N 0 a.length 1)])) q=.map (dx u9 m2) p:=by
   simp[View.set,Ne.symm T,bd]
  simp only[abi,abf,abg,abh] at o6
  refine⟨q,u5,.sl N 0 a.length 1,S ++ [x],m2,p,?_,bl,M,r,by rw[aaW,w.is];rfl,λy C=>?_⟩
  .rw[aaW]
   exact o6.perm (List.Perm.trans (.swap _ _ _) (.cons _ (.swap _ _ _)))
  .rcases aa1.1 C with C | C
   .exact w.ok y C
   .simp at C;subst C;exact hx)
end Gv
