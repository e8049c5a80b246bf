/-
  Part 14 of the proof: what the machine does and what the functions answer.
  Conditions: those that each lemma names.
-/
import Derived.Test.YtiophifnkakjgaaGreatSGzC3M
set_option linter.unusedSimpArgs false
set_option linter.unusedVariables false
set_option maxRecDepth 100000
set_option maxHeartbeats 20000000
namespace Gv
open Go Go.Proofs
def yJ:SF:=⟨ai [af [cJ 2 0,b7 4 1],ai [af [aa 5 1,aF 6 .eql 5 (-1)],bf 6 (ai [af [ay 7 3 2,au 8 7,((some 9),.op (.arith .sub (.val (.val (.int .i64 (-1)))) (.tmp 8))),((some 10),.op (.bS 1 1 [(.val (.int .i64 0))] [(0,(.tmp 9))])),aa 4 10],.ret])],af [ay 11 2 2,au 12 11,aa 13 1,aY 14 3 12 13,ay 15 1 14,au 16 15,aa 4 16],.ret],
 [.tmp 4],17⟩
theorem BI:aG Tryz.prog 244 [2]=some yJ:=by kernel_rfl
def Af:SF:=⟨ai [af [cJ 2 0,cJ 3 1,bb 4 0,bc 5 false],ai [af [bj 7 4 2,ay 8 0 3,au 9 8,aT 10 244 [7,9],aa 6 10],af [ay 11 1 3,au 12 11,aa 13 6,aQ 14 13,aZ 15 .lss 12 14],bf 15 (ai [af [aa 16 6,ay 17 1 3,au 18 17,aY 19 1 16 18,au 20 19,aa 4 20,bc 5 true],.ret])],af [bb 4 0,bc 5 false],.ret],
 [.tmp 4,.tmp 5],21⟩
theorem Dq:aG Tryz.prog 187 [2,3]=some Af:=by kernel_rfl
def Ak:SF:=⟨ai [af [cJ 2 0,bb 4 0],ai [af [aa 5 1,aF 6 .lss 5 0],bf 6 (ai [af [ay 7 0 2,au 8 7,aQ 9 8,aF 10 .sub 9 1,aa 11 1,aZ 12 .sub 10 11,aa 4 12],.ret])],af [aa 13 1,aa 4 13],.ret],
 [.tmp 4],14⟩
theorem Ds:aG Tryz.prog 188 [2]=some Ak:=by kernel_rfl
def cD:SF:=⟨ai [af [b7 2 1],ai [af [aa 3 0,((some 4),.op (.nil true 0 (.tmp 3) (.val (.emp 1))))],bf 4 (ai [af [b7 2 1],.ret])],af [b7 5 2,aa 6 0,iR 7 2 16 5 6,aa 2 7],.ret],
 [.tmp 2],8⟩
theorem dd:aG Tryz.prog 189 []=some cD:=by kernel_rfl
def rJ:SC :=
 ai [af [aZ 54 .lss 53 52],cp 54 (.exit 2),.block 3 (ai [af [aa 55 53,aY 56 3 51 53,bj 57 3 56,((some 11),.op (.alloc [(.val (.int .i64 0)),(.emp 1),(.val (.int .i64 0))])),aa 10 55,df 3 11 57],af [ay 58 0 11,au 59 58,aa 60 8,((some 61),.op (.arith .sub (.val (.val (.int .i64 (-1)))) (.tmp 60))),aZ 62 .eql 59 61],bf 62 (af [aa 63 5,aa 64 10,((some 65),.op (.build [(.val (.int .i64 0)),(.val (.int .i64 0))] [(0,1,(.tmp 64))])),((some 66),.op (.bS 1 2 [(.val (.int .i64 0)),(.val (.int .i64 0))] [(0,(.tmp 65))])),iR 67 2 16 63 66,aa 5 67])]),af [aF 68 .add 53 1,aa 53 68]]
def rY:SC :=
 ai [ai [af [aa 18 7,aa 19 5,aQ 20 19,aZ 21 .lss 18 20],cp 21 (.exit 0)],.block 1 (ai [af [bj 25 4 2,aa 26 5,aa 27 7,aY 28 2 26 27,bj 29 2 28,aT 30 187 [25,29],aa 24 30,dO 31 0 24,dO 32 1 24,aa 8 31,aa 9 32],ai [.region false [⟨none,[aa 33 9,cW 34 33,aa 35 34]⟩,⟨(some (35,false)),[aa 36 8,aF 37 .geq 36 0]⟩,⟨none,[b6 38 35 37,aa 39 38]⟩,⟨(some (39,false)),[aa 40 6,aa 41 8,((some 42),.op (.arith .sub (.val (.val (.int .i64 (-1)))) (.tmp 41))),aY 43 1 40 42,au 44 43]⟩,⟨none,[b6 45 39 44]⟩],bf 45 (.exit 1)],af [aa 46 6,aa 47 8,((some 48),.op (.arith .sub (.val (.val (.int .i64 (-1)))) (.tmp 47))),aY 49 1 46 48,(none,.op (.store 1 (.tmp 49) (.val (.val (.bool true)))))],af [ay 50 2 2,au 51 50,aQ 52 51,bb 53 0],cz 2 rJ]),af [aa 22 7,aF 23 .add 22 1,aa 7 23]]
def uD:SF:=⟨ai [af [cJ 2 0,b7 4 1],af [aa 12 1,aT 13 189 [12],aa 5 13],af [ay 14 1 2,au 15 14,aQ 16 15,((some 17),.op (.make 1 1 [(.val (.bool false))] (.tmp 16) (.tmp 16))),aa 6 17],ai [af [bb 7 0],cz 0 rY],af [aa 69 5,aT 70 124 [69],aa 4 70],.ret],
 [.tmp 4],71⟩
theorem zK:aG Tryz.prog 123 [2]=some uD:=by kernel_rfl
theorem PM (g:ag) (d : -100<=g.start/\g.start<=100) (r:Int) (hr : -1<=r/\r < (g.rules.length:Int)):az Tryz.prog 244 [.agg (ak g),gi r] (encI (bW g r)):=by
 refine az.of (by
  intro v a;simp at a
  rcases a with rfl | rfl
  .exact cX _ (cQ g)
  .exact .val _) ?_
 refine ao.of mixed BI ?_
 unfold bW
 simp(disch:=omega)only[↓wr,seval,wq,yJ,ak,encS]
 apply aj.eq<;>intro h1
 .simp(disch:=omega)only[↓wr,seval,wq,ak,encS]
  intro n
  rw[Wv h1]
  rintro c a
  refine du.fr (mN (l:=[-1 - g.start]) (.inr ⟨n,rfl,?_⟩))
  rw[a];simp[View.set]
 .have b:g.rules[r.toNat]?=some (bT g r):=by unfold bT;exact getD_some (by omega)
  rw[Ws h1]
  generalize bT g r=R at b
  simp(disch:=omega)only[↓wr,seval,wq,ak,encS,Ww,b,WL,aU]
  intro c _
  exact .tree _ (aX R.right)
theorem HF (g:ag) (c:g.cP) (x:aK) (b:c7 g x):az Tryz.prog 187 [.agg (ak g),.agg (fi x)] (.aO [gi (bJ g x).1,gb (bJ g x).2]):=by
 have h1:=PM g (rm c) x.av b.1
 have d:=fg c b.1
 have e:=b.2
 refine az.tree (by
  intro v a;simp at a
  rcases a with rfl | rfl
  .exact cX _ (cQ g)
  .exact cX _ λv a=>by simp[fi] at a;rcases a with rfl | rfl <;> exact .val _) (.aO _ λi hi=>by
   match i,hi with
   | 0,_=>exact .val _
   | 1,_=>exact .val _) λH=>?_
 refine ao.of mixed Dq ?_
 simp only[ak,encS,encI] at h1
 unfold bJ
 simp(disch:=omega)only[↓wr,seval,wq,Af,ak,encS,fi]
 refine aq.pure h1 ?_
 generalize bW g x.av=R at e d ⊢
 simp(disch:=omega)only[↓wr,seval,wq,fi]
 apply aj.dec<;>intro f
 .have h:R[x.dot.toNat]?=some (R.getD x.dot.toNat 0):=getD_some (by omega)
  simp(disch:=omega)only[↓wr,seval,wq,fi,Ww,h,WL]
  rw[Ws (by omega)]
 .simp(disch:=omega)only[↓wr,seval,wq]
  rw[Wv (by omega)]
theorem Rt (g:ag) (b:g.cP) (s:Int) (c : -1000<=s/\s<=1000):az Tryz.prog 188 [.agg (ak g),gi s] (gi (mE g s)):=by
 have d:=b.an
 refine az.val (by
  intro v a;simp at a
  rcases a with rfl | rfl
  .exact cX _ (cQ g)
  .exact .val _) λH=>?_
 refine ao.of mixed Ds ?_
 unfold mE
 simp(disch:=omega)only[↓wr,seval,wq,Ak,ak,encS]
 apply aj.dec<;>intro h1
 .simp(disch:=omega)only[↓wr,seval,wq,ak]
  rw[Wv h1]
 .simp(disch:=omega)only[↓wr,seval,wq]
  rw[Ws h1]
theorem bC.VI {P:Program} {f:FuncId} {h:Heap} {u:V} (hu:∀ Z μ hp x,aw Z μ hp u x->∃ a cap,x=.slice a 0 cap/\(a=none->cap=0)) (h1:bC P f [.emp 1] h (.emp 1) h) (n:bC P f [.emp 2] h (.emp 2) h) (o:bC P f [.dM] h (.emp 2) h):bC P f [u] h (.emp 0) h:=by
 refine⟨Wz _,λZ μ F w xs j hr d=>?_⟩
 obtain⟨p,q⟩:=j
 obtain⟨x,rfl⟩:∃ x,xs=[x]:=by
  match xs,p with
  | [x],_=>exact⟨x,rfl⟩
 have r:aw Z μ w.heap u x:=q 0 (by simp)
 have one:∀ v,aw Z μ w.heap v x->fO Z μ w.heap [v] [x]:=λv h=>⟨rfl,λi hi=>by
  simp at hi;subst hi;exact h⟩
 have b:∀ k,bC P f [if k=3 then .dM else .emp k] h (if k=3 then .emp 2 else .emp k) h->aw Z μ w.heap (if k=3 then .dM else .emp k) x->Calls P f [x].toArray w λe w'=>∃ x g μ',e=.returned x/\aw g μ' w'.heap (.emp 0) x/\dT g μ' w'.heap (cat h F)/\Ext Z μ w h.length g μ' w'/\(∀ id,id < h.length∨h.length<=id->μ' id=μ id):=by
  intro k hk s
  refine(hk.2 Z μ F w [x] (one _ s) hr d).mono ?_
  rintro e w' ⟨y,g,μ',rfl,l,rest⟩
  refine⟨y,g,μ',rfl,?_,rest⟩
  have:∀ m,aw g μ' w'.heap (.emp m) y->aw g μ' w'.heap (.emp 0) y:=λm h=>by
   cases h with | emp _ a _ _=>exact .emp 0 a (by simp) (by simp)
  split at l <;> exact this _ l
 obtain⟨a,cap,rfl,t⟩:=hu Z μ w.heap x r
 cases a with
 | none =>
  have:=t rfl
  subst this
  exact b 1 (by simpa using h1) (.emp 1 none (by simp) (by simp))
 | some a =>
  cases cap with
  | zero=>exact b 2 (by simpa using n) (.emp 2 (some a) (by simp) (by simp))
  | succ c=>exact b 3 (by simpa using o) (.dM a (c+1))
theorem N3 {Z:Nat->Prop} {μ:Mu} {hp:Array Obj} {k:Nat} {x:Value} (h:aw Z μ hp (.emp k) x):∃ a cap,x=.slice a 0 cap/\(a=none->cap=0):=by
 cases h with | emp _ a _ _=>exact⟨a,0,rfl,λ_=>rfl⟩
theorem Nb {Z:Nat->Prop} {μ:Mu} {hp:Array Obj} {id off esz:Nat} {x:Value} (h:aw Z μ hp (.sl id off 0 esz) x):∃ a cap,x=.slice a 0 cap/\(a=none->cap=0):=by
 rcases G5 h with ⟨_,a,e⟩ | ⟨b,o0,cap,c,e,f,d,_⟩
 .exact⟨a,0,e,λ_=>rfl⟩
 .exact⟨_,cap,d,λh=>by simp at h⟩
theorem I2 (u:V) (hu:∀ Z μ hp x,aw Z μ hp u x->∃ a cap,x=.slice a 0 cap/\(a=none->cap=0)) (h:Heap):bC Tryz.prog 189 [u] h (.emp 0) h:=by
 have hp:∀ v t,Tree v->Tree t->(∀ H,ao Tryz.prog 189 [v] H λr _=>r=t)->az Tryz.prog 189 [v] t:=λv t c d h=>az.tree (by intro x b;simp at b;subst b;exact c) d h
 have h1:=hp (.emp 1) (.emp 1) (.emp 1) (.emp 1) (λH=>by
  refine ao.of mixed dd ?_
  simp(disch:=omega)only[↓wr,seval,wq,cD])
 have e:=hp (.emp 2) (.emp 2) (.emp 2) (.emp 2) (λH=>by
  refine ao.of mixed dd ?_
  simp(disch:=omega)only[↓wr,seval,wq,cD,jb,Yi])
 have f:=hp .dM (.emp 2) .dM (.emp 2) (λH=>by
  refine ao.of mixed dd ?_
  simp(disch:=omega)only[↓wr,seval,wq,cD,pG,jb,Yi])
 exact bC.VI hu (bC.gn h1 h) (bC.gn e h) (bC.gn f h)
theorem LU (l:List aK) (d:l.length<=100000) (u:V) (H:View) (b:aH H u 2 (bM l)):ao Tryz.prog 189 [u] H λr H'=>aH H' r 2 (bM l)/\cM H H' r:=by
 cases l with
 | nil =>
  refine⟨by kernel_rfl,?_⟩
  rintro h rfl
  refine⟨.emp 0,h,I2 u (λZ μ hp x c=>?_) h,.refl _,.nil,.emp⟩
  rcases b with ⟨_,k,rfl⟩ | ⟨n,rfl,_⟩
  .exact N3 c
  .exact Nb c
 | cons x r =>
  obtain⟨id,hu,a⟩:=b.sl (by rw[bF];simp)
  subst hu
  refine ao.of mixed dd ?_
  have he:=rv (H:=H) id 0 r.length 2 2 (bM (x :: r)) a (by rw[bF];simp)
  rw[X1,WT (by rw[bF];simp)] at he
  simp only[WD] at d
  have hlen:(bM (x :: r)).length=r.length+1:=by rw[bF];rfl
  rw[hlen]
  simp(disch:=omega)only[↓wr,seval,wq,cD,he]
  refine iv (es:=[]) (.inl ⟨rfl,2,rfl⟩) (by simp[bM,fi,Yg,aE]) (by unfold aD;rw[hlen];simp;omega) (by unfold aD;rw[hlen];simp;omega) ?_
  intro i m e f
  simp(disch:=omega)only[↓wr,seval,wq]
  refine⟨by simpa using e,λj g=>?_⟩
  exact f j g (by simp[owner])
def dr (ks:List Nat):List aK:=ks.map λ(k:Nat)=>(⟨k,0⟩:aK)
theorem yh {a:List Nat} {n:Nat} (h:a.Nodup) (hk:∀ k∈a,k < n):a.length<=n:=by
 have:=pT a (List.range n) h λx b=>XA.2 (hk x b)
 simpa using this
theorem Pv {l:List Bool} {i:Nat} (h:i < l.length):(bH l).getD i []=[gb (l.getD i false)]:=by
 simp[Wo,h]
structure ND (g:ag) (l:List aK) (H H':View) (i:Nat) (r su:V) (ks:List Nat) (seen:List Bool):Prop where
 own:bu H' [(r,2,bM (l ++ dr ks)),(su,1,bH seen)]
 f1:cM H H' r
 f2:cM H H' su
 nd:ks.Nodup
 kl:∀ k∈ks,k < g.rules.length
 sl:seen.length=g.ax.length
 s1:∀ (n k:Nat) (R:aW),seen.getD n false=true->g.rules[k]?=some R->R.left=n->k∈ks
 s2:∀ (k:Nat) (R:aW),k∈ks->g.rules[k]?=some R->seen.getD R.left.toNat false=true
 cl:∀ x∈l ++ dr ks,qB g l x
 dn:∀ (j:Nat) (x:aK) (s:Int),j < i->(l ++ dr ks)[j]?=some x->bJ g x=(s,true)->s < 0->seen.getD (-1 - s).toNat false=true
 il:i<=(l ++ dr ks).length
theorem ND.len {g:ag} {l:List aK} {H H':View} {i:Nat} {r b:V} {a:List Nat} {seen:List Bool} (h:ND g l H H' i r b a seen):a.length<=g.rules.length/\(l ++ dr a).length=l.length+a.length:=by
 refine⟨yh h.nd h.kl,by simp[dr]⟩
def Wi (g:ag) (l:List aK) (H:View) (m:Nat) (T:Env) (H':View):Prop:=∃ (i:Nat) (r su:V) (ks:List Nat) (seen:List Bool),m=l.length+g.rules.length - i/\ND g l H H' i r su ks seen/\T 2=.aN (ak g) 0/\T 5=r/\T 6=su/\T 7=gi i
theorem Jb (g:ag) (X:g.cP) (l:List aK) (hl:∀ x∈l,c7 g x) (P:l.length<=10000) (u:V) (H:View) (ho:aH H u 2 (bM l)):ao Tryz.prog 123 [.agg (ak g),u] H λr H'=>aH H' r 2 (bM (c9 g l))/\cM H H' r:=by
 refine ao.of mixed zK ?_
 have cc:=X.rules
 have cf:=X.ax
 simp(disch:=omega)only[↓wr,seval,wq,uD,ak,encS]
 refine aq.bX ((LU l (by omega) u H ho).mono ?_)
 rintro r H1 ⟨o1,f1⟩
 simp(disch:=omega)only[↓wr,seval,wq,ak,encS]
 refine⟨⟨Wz _,by unfold aD;omega,by unfold aD;omega⟩,λY=>?_,λY q z=>?_⟩
 .exact absurd (by have:=X.th;omega) (show ¬ g.ax.length=0 by have:=X.th;omega)
 have ae:ND g l H (H1.set q (.arr 1 (List.replicate g.ax.length [gb false]))) 0 r (.sl q 0 g.ax.length 1) [] (List.replicate g.ax.length false):=by
  have e:List.replicate g.ax.length [gb false]=bH (List.replicate g.ax.length false):=by simp
  have b3:bu H1 [(r,2,bM l)]:=⟨λx C=>by simp at C;subst C;exact o1,by
   cases hr:owner r <;> simp[XM,hr]⟩
  have b4:H q=.dead∨H q≠.dead:=by cases H q <;> simp
  have E:H q=.dead:=by
   rcases b4 with h | h
   .exact h
   .have:=(f1 q h).1;rw[z] at this;exact absurd this.symm h
  refine⟨?_,λid c=>?_,λid c=>?_,.nil,by simp,by simp,λn k R h=>?_,by simp,λx C=>.base (by simpa [dr] using C),λj x s h=>by omega,XT _⟩
  .have N:=(b3.new z 1 (List.replicate g.ax.length [gb false])).perm (.swap _ _ _)
   rw[Yl] at N
   rw[e] at N ⊢
   simpa [dr] using N
  .have Q:id≠q:=by rintro rfl;exact c E
   exact⟨by simp only[View.set];rw[Ws Q];exact(f1 id c).1,(f1 id c).2⟩
  .have Q:id≠q:=by rintro rfl;exact c E
   exact⟨by simp only[View.set];rw[Ws Q];exact(f1 id c).1,by simp[owner,Ne.symm Q]⟩
  .simp only[Wo,Xu] at h
   split at h <;> simp at h
 generalize H1.set q (.arr 1 (List.replicate g.ax.length [gb false]))=H2 at ae ⊢
 refine bk.intro (Wi g l H) (l.length+g.rules.length) ⟨0,r,_,[],_,by omega,ae,rfl,rfl,rfl,rfl⟩ ?_
 clear ae o1 f1 z
 rintro m T H' ⟨i,r,J,w,seen,rfl,d,t2,t5,t6,t7⟩
 obtain⟨ch,cj⟩:=d.len
 have b5:cT r=some (l ++ dr w).length:=by rw[d.own.head.len,bF]
 simp(disch:=omega)only[↓wr,seval,wq,rY,t2,t5,t6,t7,b5]
 apply aj.dec<;>intro hc
 rotate_left
 ·
  have hi:i=(l ++ dr w).length:=by have:=d.il;omega
  simp(disch:=omega)only[↓wr,seval,wq,t5]
  refine aq.bX ((K3 (l ++ dr w) (by omega) r H' d.own.head).mono ?_)
  rintro S H3 ⟨k3,o3,e3⟩
  simp(disch:=omega)only[↓wr,seval,wq]
  have b8:c9 g l=zw (l ++ dr w):=Gn X hl (BT _) (λx C=>d.cl x (qd.1 C)) (λx C=>qd.2 (by simp[C])) (λx C s k R h1 N O h4=>by
   obtain⟨j,hj,e⟩:=Ys.1 (qd.1 C)
   have h5:=d.dn j x s (by omega) (by rw[Wp hj,e]) h1 N
   have h6:=d.s1 _ k R h5 O (by omega)
   exact qd.2 (List.mem_append_right _ (WQ.2 ⟨k,h6,rfl⟩)))
  rw[b8]
  refine⟨o3,λid c=>?_⟩
  obtain⟨q1,q2⟩:=d.f1 id c
  exact⟨by rw[k3 id q2,q1],by rw[e3];exact q2⟩
 have C:(l ++ dr w)[i]?=some ((l ++ dr w)[i]'(by omega)):=Wp (by omega)
 have a7:=WA (show i < (l ++ dr w).length by omega)
 have ck:=d.dn
 generalize (l ++ dr w)[i]'(by omega)=x at C a7
 have a8:=d.cl x a7
 have al:=a8.has hl
 have h1:=HF g X x al
 cases F:bJ g x with
 | mk s bd =>
 have cu:=Bv X al F
 rw[F] at h1
 obtain⟨id,hu,c⟩:=d.own.head.sl (by rw[bF];omega)
 simp only at hu c
 rw[bF] at hu
 simp only[ak,encS,fi] at h1
 simp(disch:=omega)only[↓wr,seval,wq,t2,t5,t6,t7,hu,c,CG C,ak,encS]
 refine⟨by omega,by rw[bF];omega,?_⟩
 refine aq.pure h1 ?_
 have skip:(bd=true->s < 0->seen.getD (-1 - s).toNat false=true)->ND g l H H' (i+1) r J w seen:=λh =>
  ⟨d.own,d.f1,d.f2,d.nd,d.kl,d.sl,d.s1,d.s2,d.cl,λj y t hj I P Y=>by
   rcases W5 j i with q | q
   .exact d.dn j y t q I P Y
   .have:j=i:=by omega
    subst this
    rw[C] at I
    simp only[Wu] at I
    subst I
    rw[F] at P
    simp only[Wx] at P
    obtain⟨rfl,rfl⟩:=P
    exact h rfl Y,by omega⟩
 cases bd with
 | false =>
  simp(disch:=omega)only[↓wr,seval,wq,t2,t5,t6,t7]
  exact⟨l.length+g.rules.length - (i+1),by omega,i+1,r,J,w,seen,rfl,skip (by simp),t2,by rw[<-hu];exact t5,t6,rfl⟩
 | true =>
 simp(disch:=omega)only[↓wr,seval,wq]
 apply aj.dec<;>intro Y
 .simp(disch:=omega)only[↓wr,seval,wq,t2,t5,t6,t7]
  exact⟨l.length+g.rules.length - (i+1),by omega,i+1,r,J,w,seen,rfl,skip (λ_ h=>by omega),t2,by rw[<-hu];exact t5,t6,rfl⟩
 have hG:=wP X al F
 have bl:(-1 - s).toNat < g.ax.length:=by
  unfold dZ at hG
  rw[Ws (by omega)] at hG
  simp at hG;omega
 obtain⟨K,A,L⟩:=d.own.tail.head.sl (by simp[d.sl];omega)
 simp only at A L
 rw[WG,d.sl] at A
 have U:(-1 - s).toNat < seen.length:=by rw[d.sl];exact bl
 simp(disch:=omega)only[↓wr,seval,wq,t6,A,L,Pv U]
 refine⟨by omega,by simp[d.sl];omega,?_⟩
 apply aj.split<;>intro N
 .simp(disch:=omega)only[↓wr,seval,wq,t2,t5,t6,t7]
  exact⟨l.length+g.rules.length - (i+1),by omega,i+1,r,J,w,seen,rfl,skip (λ_ _=>N),t2,by rw[<-hu];exact t5,by rw[<-A];exact t6,rfl⟩
 obtain⟨n,P⟩:∃ n:Nat,-1 - s=(n:Int):=⟨(-1 - s).toNat,by omega⟩
 have bn:(-1 - s).toNat=n:=by omega
 rw[bn] at bl U N
 have b9:(bH seen).set n [gb true]=bH (seen.set n true):=by simp[Yr]
 simp(disch:=omega)only[↓wr,seval,wq,t2,t5,t6,t7,A,L,ak,encS,P,Pv U,b9]
 refine⟨by omega,by simp[d.sl];omega,?_⟩
 have ar:∀ m,(seen.set n true).getD m false=if n=m then true else seen.getD m false:=λm=>by
  rw[E2]
  by_cases e:n=m
  .rw[Wv ⟨e,U⟩,Wv e]
  .rw[Ws (λh=>e h.1),Ws e]
 have o2:bu (H'.set K (.arr 1 (bH (seen.set n true)))) [(r,2,bM (l ++ dr w)),(J,1,bH (seen.set n true))]:=by
  have O:=d.own.perm (.swap _ _ _)
  rw[A] at O ⊢
  exact(O.put (es':=bH (seen.set n true)) (by simp) (by simp[d.sl])).perm (.swap _ _ _)
 have M:∀ id,H id≠.dead->id≠K:=λid c e=>by
  have:=(d.f2 id c).2
  rw[A,e] at this
  exact this rfl
 have a1:cM H (H'.set K (.arr 1 (bH (seen.set n true)))) r:=λid c=>⟨by simp only[View.set];rw[Ws (M id c)];exact(d.f1 id c).1,(d.f1 id c).2⟩
 have a6:cM H (H'.set K (.arr 1 (bH (seen.set n true)))) J:=λid c=>⟨by simp only[View.set];rw[Ws (M id c)];exact(d.f2 id c).1,(d.f2 id c).2⟩
 generalize H'.set K (.arr 1 (bH (seen.set n true)))=H4 at o2 a1 a6 ⊢
 refine bk.up g.rules.length (λk T Z=>∃ (S:V) (f:List Nat),f=w ++ (List.range k).filter (λ(q:Nat)=>decide ((bT g q).left=n))/\bu Z [(S,2,bM (l ++ dr f)),(J,1,bH (seen.set n true))]/\cM H Z S/\cM H Z J /\
  T 2=.aN (ak g) 0/\T 5=S/\T 6=J/\T 7=gi i/\T 8=gi s/\T 51=.aL (g.rules.map aU)/\T 52=gi g.rules.length/\T 53=gi k) ⟨r,w,by simp,o2,a1,a6,t2,by rw[<-hu];exact t5,by rw[<-A];exact t6,t7,rfl,rfl,rfl,rfl⟩ ?_
 clear t2 t5 t6 t7 o2 a1 a6
 rintro k j T5 Z hk ⟨S,f,G,o5,f5,g5,t2,t5,t6,t7,t8,t51,t52,t53⟩
 have br:∀ q,q∈w->¬ (bT g q).left=n:=λq z e=>by
  have hR:g.rules[q]?=some (bT g q):=by unfold bT;exact getD_some (d.kl q z)
  have:=d.s2 q _ z hR
  rw[e] at this
  simp only[W8] at this
  rw[N] at this;simp at this
 have ab:f.Nodup:=by
  rw[G,XV]
  refine⟨d.nd,(List.nodup_range).filter _,λa ha b hb e=>?_⟩
  subst e
  exact br a ha (by simpa using (XF.1 hb).2)
 simp(disch:=omega)only[↓wr,seval,wq,rJ,t2,t5,t6,t7,t8,t51,t52,t53]
 apply aj.dec<;>intro ca
 .have hR:g.rules[k]?=some (bT g k):=by unfold bT;exact getD_some (by omega)
  have bs:∀ q∈f,q < g.rules.length:=λq z=>by
   rw[G] at z
   rcases WN.1 z with h | h
   .exact d.kl q h
   .have:=XA.1 (XF.1 h).1;omega
  have cv:=yh ab bs
  have p:w ++ (List.range (k+1)).filter (λ(q:Nat)=>decide ((bT g q).left=n))=if (bT g k).left=n then f ++ [k] else f:=by
   rw[X4,Yn,<-Xp,<-G]
   by_cases e:(bT g k).left=n <;> simp[e]
  generalize bT g k=R at hR p
  simp(disch:=omega)only[↓wr,seval,wq,t2,t5,t6,t7,t8,t51,t52,t53,Ww,hR,WL,aU]
  intro q z
  rw[set_set]
  have bx:(Z.set q (.arr 3 [[gi R.left,encI R.right,gi R.prec]])) q=.arr 3 [[gi R.left,encI R.right,gi R.prec]]:=by simp[View.set]
  have E:∀ id,H id≠.dead->id≠q:=λid c e=>by
   have:=(f5 id c).1
   rw[e,z] at this
   exact c (by rw[e];exact this.symm)
  have o6:=o5.fresh (o:=.arr 3 [[gi R.left,encI R.right,gi R.prec]]) z
  have f6:cM H (Z.set q (.arr 3 [[gi R.left,encI R.right,gi R.prec]])) S:=λid c=>⟨by simp only[View.set];rw[Ws (E id c)];exact(f5 id c).1,(f5 id c).2⟩
  have g6:cM H (Z.set q (.arr 3 [[gi R.left,encI R.right,gi R.prec]])) J:=λid c=>⟨by simp only[View.set];rw[Ws (E id c)];exact(g5 id c).1,(g5 id c).2⟩
  generalize Z.set q (.arr 3 [[gi R.left,encI R.right,gi R.prec]])=H6 at bx o6 f6 g6
  clear o5 f5 g5 z E
  simp(disch:=omega)only[↓wr,seval,wq,t2,t5,t6,t7,t8,bx,P]
  refine⟨rfl,?_⟩
  apply aj.eq<;>intro he
  .simp(disch:=omega)only[↓wr,seval,wq,t2,t5,t6,t7,t8]
   intro q2 b0
   simp(disch:=omega)only[↓wr,seval,wq,bY]
   have D:∀ id,H id≠.dead->id≠q2:=λid c e=>by
    have:=(f6 id c).1
    rw[e,b0] at this
    exact c (by rw[e];exact this.symm)
   refine gE (o6.fresh b0) (by simp[aE]) (by unfold aD;rw[bF];simp[dr];omega) (by unfold aD;rw[bF];simp[dr];omega) ?_
   intro r3 H7 o7 l7
   simp(disch:=omega)only[↓wr,seval,wq,t2,t6,t7,t8,t51,t52,t53]
   rw[Wv he] at p
   have f7:∀ v,cM H H6 v->(∀ id,owner v=some id->owner S≠some id/\owner r3≠some id)->cM H H7 v:=λv hv cA id c=>by
    obtain⟨e1,e2⟩:=hv id c
    obtain⟨k1,k2⟩:=l7 id (by simp only[View.set];rw[Ws (D id c),e1];exact c) (f6 id c).2
    refine⟨?_,e2⟩
    rw[k1]
    simp only[View.set]
    rw[Ws (D id c),e1]
   have f8:cM H H7 r3:=λid c=>by
    obtain⟨e1,e2⟩:=f6 id c
    obtain⟨k1,k2⟩:=l7 id (by simp only[View.set];rw[Ws (D id c),e1];exact c) e2
    refine⟨?_,k2⟩
    rw[k1]
    simp only[View.set]
    rw[Ws (D id c),e1]
   refine aJ hk (by omega) ⟨r3,f ++ [k],p.symm,?_,f8,λid c=>⟨(f8 id c).1,(g6 id c).2⟩,t2,rfl,t6,t7,t8,t51,t52,rfl⟩
   have e1:bM (l ++ dr (f ++ [k]))=bM (l ++ dr f) ++ [[gi k,gi 0]]:=by simp[bM,dr,fi]
   rw[e1]
   exact o7
  .simp(disch:=omega)only[↓wr,seval,wq,t2,t5,t6,t7,t8,t51,t52,t53]
   rw[Ws he] at p
   exact aJ hk (by omega) ⟨S,f,p.symm,o6,f6,g6,t2,t5,t6,t7,t8,t51,t52,rfl⟩
 .have cb:k=g.rules.length:=by omega
  subst cb
  simp(disch:=omega)only[↓wr,seval,wq,t2,t5,t6,t7]
  have B:∀ q,q∈f↔q∈w∨(q < g.rules.length/\(bT g q).left=n):=λq=>by
   rw[G,WN,XF,XA,WH]
  have b1:∀ (q:Nat) (R:aW),g.rules[q]?=some R->bT g q=R:=λq R h=>by
   unfold bT
   rw[W8,Wo,h];rfl
  have b2:∀ (j:Nat),j<=i->(l ++ dr f)[j]?=(l ++ dr w)[j]?:=λj hj=>by
   rw[G,dr,W6,<-Xp]
   exact WS (by simp only[dr] at hc;omega)
  refine⟨l.length+g.rules.length - (i+1),by omega,i+1,S,J,f,seen.set n true,rfl,⟨o5,f5,g5,ab,λq z=>?_,by rw[X6];exact d.sl,λm q R O h4 h5=>?_,λq R O h4=>?_,λy I=>?_,λj y t hj I W Y=>?_,?_⟩,t2,t5,t6,rfl⟩
  .rcases (B q).1 z with h | h
   .exact d.kl q h
   .exact h.1
  .rw[ar] at O
   split at O
   .rename_i e
    subst e
    exact(B q).2 (.inr ⟨(Wy.1 h4).1,by rw[b1 q R h4];exact h5⟩)
   .exact(B q).2 (.inl (d.s1 m q R O h4 h5))
  .rw[ar]
   rcases (B q).1 O with h | h
   .split
    .rfl
    .exact d.s2 q R h h4
   .rw[b1 q R h4] at h
    rw[h.2,W8,Wv rfl]
  .rcases WN.1 I with h | h
   .exact d.cl y (List.mem_append_left _ h)
   .obtain⟨q,z,rfl⟩:=WQ.1 h
    rcases (B q).1 z with h | h
    .exact d.cl _ (List.mem_append_right _ (WQ.2 ⟨q,h,rfl⟩))
    .have hR:g.rules[q]?=some (bT g q):=by unfold bT;exact getD_some h.1
     exact .step a8 F (by omega) hR (by rw[h.2,P])
  .rw[b2 j (by omega)] at I
   rw[ar]
   rcases W5 j i with q | q
   .split
    .rfl
    .exact d.dn j y t q I W Y
   .have:j=i:=by omega
    subst this
    rw[C] at I
    simp only[Wu] at I
    subst I
    rw[F] at W
    simp only[Wx,and_true] at W
    subst W
    rw[bn,Wv rfl]
  .rw[G,dr,W6,<-Xp,WO]
   simp only[dr] at hc
   omega
def ij (l:List UInt8):Value:=.string ⟨l.toArray⟩
theorem GC {a b:List UInt8} : ((⟨a.toArray⟩:ByteArray) == ⟨b.toArray⟩)=(a == b):=by
 show (a.toArray == b.toArray)=_
 simp
theorem HY {P:Program} {kt:TypeId} (h:P.underlying kt=some .string):Bg P kt ij where
 ty:=⟨_,h,λa b=>by simp only[Instr.sameNow,ij,GC],λa e=>we h trivial e 9999 _⟩
 bits:=λa b c=>by
  have:a=b:=by simpa using c
  subst this
  show ((⟨a.toArray⟩:ByteArray) == ⟨a.toArray⟩)=true
  rw[GC];simp
def pg (l:List aK):List Int:=l.flatMap λx=>[x.av+1,x.dot]
theorem Qj (l:List aK):(pg l).length=2 * l.length:=by
 induction l with
 | nil=>rfl
 | cons x l a=>simp only[pg,List.flatMap_cons,WO,WD,WW] at a ⊢;omega
theorem Bo:∀ l:List aK,ll ((pg l).map λn=>[gy n])=some (fY l)
 | []=>rfl
 | x :: l=>by
  have a:=Bo l
  simp only[pg,fY,List.flatMap_cons,Xh,Xt,WZ,ll] at a ⊢
  rw[a];rfl
theorem Sf {x:Int} (h1:0<=x) (c:x < 256):IntKind.wrap .u8 x=x:=by
 unfold IntKind.wrap
 have a:(2:Int) ^ IntKind.u8.bits=256:=by rfl
 have b:IntKind.u8.signed=false:=by rfl
 simp only[a,b,XQ,WR,if_false]
 omega
theorem Um {P:Program} {T:Env} {H:View} {K:V->View->Prop} {w:ct (T,H,K)} {t e d ty:TypeId} {x:Operand} {u:V} {xs:List (List V)} {rd:List Nat} {l:List UInt8} {k:Nat} (hu:P.underlying t=some (.slice e)) (he:P.underlying e=some (.int .u8)) (a:P.underlying d=some .string)
  (b:ev T x=u) (c:bD H u=some (xs,rd)) (f:cT u=some k) (g:ll xs=some l) (hk:K (.val (ij l)) H):iZ P (.convert t d x) ty T H K w:=by
 intro n _
 have h:lf P t d=true:=by simp[lf,hu]
 refine⟨.val (ij l),.none,rd,?_,hk⟩
 simp only[sI,bR,oper]
 rw[Wv h,b]
 simp[mT,hu,he,a,c,f,g,ij]
def uS:SC :=
 ai [af [aZ 15 .lss 14 13],cp 15 (.exit 0),.block 1 (ai [af [aY 16 2 12 14,bj 17 2 16,((some 7),.op (.alloc [(.val (.int .i64 0)),(.val (.int .i64 0))])),df 2 7 17],af [bj 19 4 2,bj 20 2 7,aT 21 187 [19,20],aa 18 21,dO 22 0 18,dO 23 1 18,aa 8 22,aa 9 23],af [aa 24 9],bf 24 (ai [af [bj 25 4 2,aa 26 8,aT 27 188 [25,26],aa 10 27],af [aa 28 5,aa 29 10,aa 30 5,aa 31 10,((some 32),.op (.old (.lookup 209 (.tmp 30) (.tmp 31) false) 103)),ay 33 0 7,au 34 33,ay 35 1 7,au 36 35,aF 37 .add 36 1,((some 38),.op (.build [(.val (.int .i64 0)),(.val (.int .i64 0))] [(0,1,(.tmp 34)),(1,1,(.tmp 37))])),((some 39),.op (.bS 1 2 [(.val (.int .i64 0)),(.val (.int .i64 0))] [(0,(.tmp 38))])),iR 40 2 16 32 39,(none,.op (.old (.mapUpdate 209 (.tmp 28) (.tmp 29) (.tmp 40)) 0))]])]),af [aF 41 .add 14 1,aa 14 41]]
def xU:SF:=⟨ai [af [cJ 2 0,((some 4),.op (.dX (.val (.val (.map none)))))],af [((some 11),.op (.oo)),aa 5 11],ai [af [aa 12 1,aQ 13 12,bb 14 0],cz 0 uS],af [aa 42 5,aa 4 42],.ret],
 [.tmp 4],43⟩
theorem Cs:aG Tryz.prog 122 [2]=some xU:=by kernel_rfl
def yf:SC :=
 ai [af [aZ 9 .lss 8 7],cp 9 (.exit 0),.block 1 (ai [af [aY 10 2 6 8,bj 11 2 10,((some 5),.op (.alloc [(.val (.int .i64 0)),(.val (.int .i64 0))])),df 2 5 11],af [aa 12 3,ay 13 0 5,au 14 13,aF 15 .add 14 1,((some 16),.op (.conv .u8 (.tmp 15))),ay 17 1 5,au 18 17,((some 19),.op (.conv .u8 (.tmp 18))),((some 20),.op (.bS 2 1 [(.val (.int .u8 0))] [(0,(.tmp 16)),(1,(.tmp 19))])),iR 21 1 1 12 20,aa 3 21]]),af [aF 22 .add 8 1,aa 8 22]]
def B1:SF:=⟨ai [.region false [⟨none,[((some 2),.op (.dX (.val (.val (.string ⟨#[]⟩)))))]⟩],af [b7 3 1],ai [af [aa 6 0,aQ 7 6,bb 8 0],cz 0 yf],af [aa 23 3,((some 24),.op (.old (.convert 90 9 (.tmp 23)) 9)),aa 2 24],.ret],
 [.tmp 2],25⟩
theorem FJ:aG Tryz.prog 121 []=some B1:=by kernel_rfl
theorem IV (g:ag) (K:g.cP) (l:List aK) (M:∀ x∈l,c7 g x) (C:l.length<=10000) (u:V) (H:View) (L:aH H u 2 (bM l)):ao Tryz.prog 121 [u] H λr H'=>r=.val (ij (fY l))/\∀ id,H id≠.dead->H' id=H id:=by
 refine ao.of mixed FJ ?_
 have hlen:cT u=some l.length:=by rw[L.len,bF]
 have N:=K.rules
 simp(disch:=omega)only[↓wr,seval,wq,B1,hlen]
 refine bk.up l.length (λi T H'=>∃ b:V,aH H' b 1 ((pg (l.take i)).map λn=>[gy n])/\cM H H' b/\T 3=b/\T 6=u/\T 7=gi l.length/\T 8=gi i) ⟨.emp 1,.nil,.emp,rfl,rfl,rfl,rfl⟩ ?_
 rintro i k T H' hk ⟨b,v,w,t3,t6,t7,t8⟩
 simp(disch:=omega)only[↓wr,seval,wq,yf,t3,t6,t7,t8]
 apply aj.dec<;>intro O
 .have D:l[i]?=some (l[i]'(by omega)):=Wp (by omega)
  have f:=M _ (WA (show i < l.length by omega))
  have z:l.take (i+1)=l.take i ++ [l[i]'(by omega)]:=by rw[WY,D];rfl
  generalize l[i]'(by omega)=x at D f z
  have P:=fg K f.1
  have Q:=f.1
  have R:=f.2
  obtain⟨id,hu,a⟩:=L.sl (by rw[bF];omega)
  have A:H' id=.arr 2 (bM l):=by rw[(w id (by rw[a];simp)).1,a]
  rw[bF] at hu
  subst hu
  have E:=Qj (l.take i)
  rw[XD] at E
  simp(disch:=omega)only[↓wr,seval,wq,t3,t6,t7,t8,A,CG D,Sf (x:=x.av+1) (by omega) (by omega),Sf (x:=x.dot) (by omega) (by omega)]
  refine⟨by omega,by rw[bF];omega,?_⟩
  intro q B o F
  obtain⟨G,p⟩:=dg F (by simp)
  rw[Ws G] at p
  have I:∀ j,H j≠.dead->j≠q/\j≠o:=λj c=>by
   have h1:=(w j c).1
   exact⟨λe=>c (by rw[e] at h1 ⊢;rw[<-h1,B]),λe=>c (by rw[e] at h1 ⊢;rw[<-h1,p])⟩
  have J:∀ a0 h a2,aH (((H'.set q a0).set q h).set o a2) b 1 ((pg (l.take i)).map λn=>[gy n]):=λa0 h a2=>v.keep λid a=>by
   have h1:=(v.live a).1
   have s:id≠q:=by rintro rfl;rw[B] at h1;simp at h1
   have t:id≠o:=by rintro rfl;rw[p] at h1;simp at h1
   simp[View.set,s,t]
  have m:∀ a0 h a2 j,H j≠.dead->(((H'.set q a0).set q h).set o a2) j=H j:=λa0 h a2 j c=>by
   obtain⟨s,t⟩:=I j c
   simp[View.set,s,t,(w j c).1]
  have d:∀ (a0 h:bN) (s t:List V),bD (((H'.set q a0).set q h).set o (.arr 1 [s,t])) (.sl o 0 2 1)=some ([s,t],[o]):=λa0 h s t=>by simp[bD,View.set]
  simp(disch:=omega)only[↓wr,seval,wq,d,t3]
  refine iv (J _ _ _) (by simp[aE]) (by unfold aD;simp;omega) (by unfold aD;simp;omega) ?_
  intro S Y U W
  simp(disch:=omega)only[↓wr,seval,wq,t6,t7,t8]
  refine aJ hk (by omega) ⟨S,?_,λj c=>?_,rfl,t6,t7,rfl⟩
  .have:(pg (l.take (i+1))).map (λn=>[gy n])=(pg (l.take i)).map (λn=>[gy n]) ++ [[gy (x.av+1)],[gy x.dot]]:=by
    rw[z];simp[pg]
   rw[this];exact U
  .obtain⟨X,k2⟩:=W j (by rw[m _ _ _ j c];exact c) (w j c).2
   exact⟨by rw[X,m _ _ _ j c],k2⟩
 .rw[WT (by omega)] at v
  simp(disch:=omega)only[↓wr,seval,wq,t3]
  have d:∃ rd,bD H' b=some ((pg l).map (λn=>[gy n]),rd):=by
   rcases v with ⟨e,k,rfl⟩ | ⟨n,rfl,C⟩
   .exact⟨[],by rw[e];rfl⟩
   .rcases B:(pg l).map (λn=>[gy n]) with _ | ⟨y,ys⟩
    .exact⟨[],by simp[bD]⟩
    .rw[B] at C
     exact⟨[n],by
      have:=rv (H:=H') n 0 ys.length 1 1 (y :: ys) C (by simp)
      rw[WD,this];simp⟩
  obtain⟨rd,d⟩:=d
  refine Um (u:=b) (xs:=(pg l).map λn=>[gy n]) (rd:=rd) (k:=((pg l).map λn=>[gy n]).length) (l:=fY l) Tryz.underlying90 Tryz.underlying5 Tryz.underlying9 (by simp(disch:=omega)only[↓wr,seval,wq];exact t3) d v.len (Bo l) ?_
  simp(disch:=omega)only[↓wr,seval,wq]
  exact λid a=>(w id a).1
theorem xY (g:ag) (p:List aK) (y:aK) (s:Int):bA g (p ++ [y]) s=if bJ g y=(s,true) then bA g p s ++ [⟨y.av,y.dot+1⟩] else bA g p s:=by
 unfold bA
 rw[Yn,W6]
 split
 .rename_i h;simp[h]
 .rename_i h;simp[h]
def ji (g:ag) (p:List aK) (A:bQ Int):List ed:=A.map λx=>(x.2.1,2,bM (bA g p (bg g x.1.toNat)))
structure sV (g:ag) (p:List aK) (H0 H:View) (q:Nat) (A:bQ Int):Prop where
 mp:∃ c,H q=.map (bV (Value.int .i64) A) c
 nd:(A.map (·.1)).Nodup
 own:bu H (ji g p A)
 ne:∀ x∈A,0<=x.1/\bA g p (bg g x.1.toNat)≠[]
 all:∀ k:Nat,bA g p (bg g k)≠[]->((k:Nat):Int)∈A.map (·.1)
 old:∀ id,H0 id≠.dead->H id=H0 id
 q0:H0 q=.dead
 new:∀ x∈A,∀ id,owner x.2.1=some id->H0 id=.dead
theorem getM_none {A:bQ Int} {k:Int} : getM A k=none↔k ∉ A.map (·.1):=by
 induction A with
 | nil=>simp[getM]
 | cons x A a =>
  unfold getM at a ⊢
  rw[List.find?_cons]
  by_cases h:k=x.1
  .simp[h]
  .simp only[beq_eq_false_iff_ne.2 h,WZ,WK,not_or]
   rw[a]
   simp[h]
theorem vX {A:bQ Int} {k:Int} {v:V} (h:getM A k=some v):∃ a d b,A=a ++ (k,v,b) :: d/\k ∉ a.map (·.1)/\∀ v' c,bz k v' c A=a ++ (k,v',b) :: d:=by
 induction A with
 | nil=>simp[getM] at h
 | cons x A f =>
  unfold getM at h f
  rw[List.find?_cons] at h
  by_cases e:k=x.1
  .simp only[e,beq_self_eq_true,WL,Wu] at h
   refine⟨[],A,x.2.2,by rw[e,<-h];rfl,by simp,λv' c=>?_⟩
   rw[bz,e,beq_self_eq_true,Wv rfl];rfl
  .rw[beq_eq_false_iff_ne.2 e] at h
   obtain⟨a,d,b,rfl,g,i⟩:=f h
   refine⟨x :: a,d,b,rfl,by simp only[WZ,WK,not_or];exact⟨e,g⟩,λv' c=>?_⟩
   rw[bz,beq_eq_false_iff_ne.2 e,i];rfl
theorem R0 {A:bQ Int} {k:Int} (h:k ∉ A.map (·.1)) (v:V) (c:Nat):bz k v c A=A ++ [(k,v,c)]:=by
 induction A with
 | nil=>rfl
 | cons x A a =>
  simp only[WZ,WK,not_or] at h
  rw[bz,beq_eq_false_iff_ne.2 h.1,a h.2];rfl
theorem sV.skip {g:ag} {p:List aK} {a H:View} {q:Nat} {A:bQ Int} (h:sV g p a H q A) {y:aK} (b:(bJ g y).2=false):sV g (p ++ [y]) a H q A:=by
 have e:∀ s,bA g (p ++ [y]) s=bA g p s:=λs=>by rw[xY,Ws (λh=>by rw[h] at b;simp at b)]
 have c:ji g (p ++ [y]) A=ji g p A:=by simp only[ji,e]
 exact⟨h.mp,h.nd,by rw[c];exact h.own,λx d=>by rw[e];exact h.ne x d,λk hk=>by rw[e] at hk;exact h.all k hk,h.old,h.q0,h.new⟩
theorem sV.val {g:ag} {p:List aK} {d H:View} {q:Nat} {A:bQ Int} (h:sV g p d H q A) (r:Nat):aH H ((getM A r).getD (.emp 1)) 2 (bM (bA g p (bg g r))):=by
 cases c:getM A r with
 | none =>
  have e:=getM_none.1 c
  have:bA g p (bg g r)=[]:=X5 λa=>e (h.all r a)
  rw[this];exact .nil
 | some v =>
  obtain⟨f,i,b,rfl,_,_⟩:=vX c
  have:=h.own.1 (v,2,bM (bA g p (bg g r))) (by simp[ji])
  exact this
theorem sV.put {g:ag} {p:List aK} {B H:View} {q:Nat} {A:bQ Int} (h:sV g p B H q A) {y:aK} {r:Nat} (W:bJ g y=(bg g r,true)) {H1:View} {v':V} (X:aH H1 v' 2 (bM (bA g p (bg g r) ++ [⟨y.av,y.dot+1⟩]))) (w:Left H H1 ((getM A r).getD (.emp 1)) v') (c C:Nat) :
  sV g (p ++ [y]) B (H1.set q (.map (bV (Value.int .i64) (bz (r:Int) v' c A)) C)) q (bz (r:Int) v' c A):=by
 obtain⟨c0,O⟩:=h.mp
 have hr:bA g (p ++ [y]) (bg g r)=bA g p (bg g r) ++ [⟨y.av,y.dot+1⟩]:=by rw[xY,Wv W]
 have i:∀ x:Int × V × Nat,0<=x.1->x.1≠r->bA g (p ++ [y]) (bg g x.1.toNat)=bA g p (bg g x.1.toNat):=λx Q d=>by
  rw[xY,Ws]
  intro e
  rw[W] at e
  simp only[Wx,and_true] at e
  have h1:=vJ g r
  rw[e,vJ] at h1
  omega
 have D:owner ((getM A r).getD (.emp 1))≠some q:=λe=>by
  have:=((h.val r).live e).1
  rw[O] at this;simp at this
 have E:H1 q≠.dead/\owner v'≠some q:=by
  obtain⟨k1,k2⟩:=w q (by rw[O];simp) D
  exact⟨by rw[k1,O];simp,k2⟩
 have hold:∀ id,B id≠.dead->id≠q/\owner ((getM A r).getD (.emp 1))≠some id:=λid f=>by
  refine⟨λe=>f (by rw[e];exact h.q0),λe=>?_⟩
  cases t:getM A r with
  | none=>rw[t] at e;simp[owner] at e
  | some v =>
   rw[t] at e
   obtain⟨s,l,b,rfl,_,_⟩:=vX t
   exact f (h.new (r,v,b) (by simp) id e)
 have m:∀ id,B id≠.dead->(H1.set q (.map (bV (Value.int .i64) (bz (r:Int) v' c A)) C)) id=B id:=λid f=>by
  simp only[View.set]
  rw[Ws (hold id f).1,(w id (by rw[h.old id f];exact f) (hold id f).2).1,h.old id f]
 have F:∀ id,owner v'=some id->B id=.dead:=λid e=>Yp λf=>(w id (by rw[h.old id f];exact f) (hold id f).2).2 e
 have u:∀ {L:List ed},bu H1 L->(∀ x∈L,owner x.1≠some q)->bu (H1.set q (.map (bV (Value.int .i64) (bz (r:Int) v' c A)) C)) L:=λY d=>⟨λx G=>(Y.1 x G).other (d x G),Y.2⟩
 have j:∀ x∈A,owner x.2.1≠some q:=λx d=>h.own.FR O _ (WQ.2 ⟨x,d,rfl⟩)
 cases t:getM A r with
 | none =>
  have P:=getM_none.1 t
  rw[t] at w
  rw[R0 P] at *
  have R:ji g (p ++ [y]) (A ++ [((r:Int),v',c)])=ji g p A ++ [(v',2,bM (bA g p (bg g r) ++ [⟨y.av,y.dot+1⟩]))]:=by
   simp only[ji,W6,WZ,Yy,W8,hr]
   congr 1
   refine Xy λx d=>?_
   rw[i x (h.ne x d).1 (λe=>P (WQ.2 ⟨x,d,e⟩))]
  refine⟨⟨C,by simp[View.set]⟩,?_,?_,λx d=>?_,λk hk=>?_,m,h.q0,λx d id e=>?_⟩
  .rw[W6,XV]
   refine⟨h.nd,by simp,λa ha b Z e=>?_⟩
   simp at Z;subst Z;subst e;exact P ha
  .rw[R]
   have S:bu H1 ((v',2,bM (bA g p (bg g r) ++ [⟨y.av,y.dot+1⟩])) :: ji g p A):=(h.own.emp (k:=1) (sz:=2)).left (by simpa using X) w
   refine u (S.perm (List.perm_append_comm (l₁:=[_]))) λx d=>?_
   rcases WN.1 d with d | d
   .obtain⟨z,I,rfl⟩:=WQ.1 d
    exact j z I
   .simp at d;subst d;exact E.2
  .rcases WN.1 d with d | d
   .rw[i x (h.ne x d).1 (λe=>P (WQ.2 ⟨x,d,e⟩))];exact h.ne x d
   .simp at d;subst d;simp[hr]
  .rw[W6,WN]
   by_cases e:k=r
   .right;simp[e]
   .left
    refine h.all k ?_
    have:=i ((k:Int),.any,0) (by simp) (by simp only;omega)
    simp only[W8] at this
    rw[<-this];exact hk
  .rcases WN.1 d with d | d
   .exact h.new x d id e
   .simp at d;subst d;exact F id e
 | some v =>
  obtain⟨s,l,b,rfl,T,J⟩:=vX t
  rw[t] at w
  rw[J] at *
  have K:=h.nd
  rw[W6,WZ,XV] at K
  have U:(r:Int) ∉ l.map (·.1):=(Xq.1 K.2.1).1
  have M:∀ x∈s,x.1≠r:=λx d e=>T (WQ.2 ⟨x,d,e⟩)
  have N:∀ x∈l,x.1≠r:=λx d e=>U (WQ.2 ⟨x,d,e⟩)
  have n:∀ x∈s,x∈s ++ ((r:Int),v,b) :: l:=λx d=>List.mem_append_left _ d
  have o:∀ x∈l,x∈s ++ ((r:Int),v,b) :: l:=λx d=>List.mem_append_right _ (W9 _ d)
  have R:ji g (p ++ [y]) (s ++ ((r:Int),v',b) :: l)=ji g p s ++ (v',2,bM (bA g p (bg g r) ++ [⟨y.av,y.dot+1⟩])) :: ji g p l:=by
   simp only[ji,W6,WZ,W8,hr]
   congr 1
   .refine Xy λx d=>?_
    rw[i x (h.ne x (n x d)).1 (M x d)]
   .congr 1
    refine Xy λx d=>?_
    rw[i x (h.ne x (o x d)).1 (N x d)]
  have e0:ji g p (s ++ ((r:Int),v,b) :: l)=ji g p s ++ (v,2,bM (bA g p (bg g r))) :: ji g p l:=by
   simp only[ji,W6,WZ,W8]
  refine⟨⟨C,by simp[View.set]⟩,by simpa using h.nd,?_,λx d=>?_,λk hk=>?_,m,h.q0,λx d id e=>?_⟩
  .rw[R]
   have Q:=h.own
   rw[e0] at Q
   have S:bu H1 ((v',2,bM (bA g p (bg g r) ++ [⟨y.av,y.dot+1⟩])) :: (ji g p s ++ ji g p l)):=(Q.perm List.perm_middle).left X w
   refine u (S.perm List.perm_middle.symm) λx d=>?_
   rcases WN.1 d with d | d
   .obtain⟨z,I,rfl⟩:=WQ.1 d
    exact j z (n z I)
   .rcases WK.1 d with rfl | d
    .exact E.2
    .obtain⟨z,I,rfl⟩:=WQ.1 d
     exact j z (o z I)
  .rcases WN.1 d with d | d
   .rw[i x (h.ne x (n x d)).1 (M x d)];exact h.ne x (n x d)
   .rcases WK.1 d with rfl | d
    .simp[hr]
    .rw[i x (h.ne x (o x d)).1 (N x d)];exact h.ne x (o x d)
  .by_cases e:k=r
   .subst e;simp
   .have:=i ((k:Int),.any,0) (by simp) (by simp only;omega)
    simp only[W8] at this
    rw[this] at hk
    have:=h.all k hk
    simpa using this
  .rcases WN.1 d with d | d
   .exact h.new x (n x d) id e
   .rcases WK.1 d with rfl | d
    .exact F id e
    .exact h.new x (o x d) id e
theorem sV.fresh {g:ag} {p:List aK} {e H:View} {q:Nat} {A:bQ Int} (h:sV g p e H q A) {n:Nat} (b:H n=.dead) (o:bN):sV g p e (H.set n o) q A:=by
 obtain⟨c,d⟩:=h.mp
 have f:q≠n:=by rintro rfl;rw[b] at d;simp at d
 refine⟨⟨c,by simp[View.set,f,d]⟩,h.nd,h.own.fresh b,h.ne,h.all,λid a=>?_,h.q0,h.new⟩
 have i:id≠n:=by rintro rfl;rw[h.old id a] at b;exact a b
 simp[View.set,i,h.old id a]
theorem QT (g:ag) (w:g.cP) (l:List aK) (hl:∀ x∈l,c7 g x) (L:l.length<=10000) (u:V) (H:View) (ho:aH H u 2 (bM l)):ao Tryz.prog 122 [.agg (ak g),u] H λr H'=>∃ q A,r=.mp q/\sV g l H H' q A:=by
 refine ao.of mixed Cs ?_
 have hlen:cT u=some l.length:=by rw[ho.len,bF]
 have hT:=w.an
 have hN:=w.ax
 simp(disch:=omega)only[↓wr,seval,wq,xU,ak,encS,hlen]
 intro q M
 have N:sV g [] H (H.set q (.map [] 0)) q []:=⟨⟨0,by simp[View.set,bV]⟩,by simp,⟨by simp[ji],by simp[ji]⟩,by simp,λk hk=>absurd rfl hk,λid j=>by
  have:id≠q:=by rintro rfl;exact j M
  simp[View.set,this],M,by simp⟩
 generalize H.set q (.map [] 0)=H1 at N
 try simp(disch:=omega)only[↓wr,seval,wq]
 refine bk.up l.length (λi T H'=>∃ A,sV g (l.take i) H H' q A/\T 2=.aN (ak g) 0/\T 5=.mp q/\T 12=u/\T 13=gi l.length/\T 14=gi i) ⟨[],N,rfl,rfl,rfl,rfl,rfl⟩ ?_
 clear N M
 rintro i k T H' hk ⟨A,D,t2,t5,t12,t13,t14⟩
 simp(disch:=omega)only[↓wr,seval,wq,uS,t2,t5,t12,t13,t14]
 apply aj.dec<;>intro hc
 .have O:l[i]?=some (l[i]'(by omega)):=Wp (by omega)
  have a:=hl _ (WA (show i < l.length by omega))
  have B:l.take (i+1)=l.take i ++ [l[i]'(by omega)]:=by rw[WY,O];rfl
  generalize l[i]'(by omega)=x at O a B
  have h1:=HF g w x a
  cases b:bJ g x with
  | mk s P =>
  have Q:=Bv w a b
  rw[b] at h1
  have ae:=fg w a.1
  have al:=a.2
  obtain⟨id,hu,j⟩:=ho.sl (by rw[bF];omega)
  have p:H' id=.arr 2 (bM l):=by rw[D.old id (by rw[j];simp),j]
  rw[bF] at hu
  subst hu
  simp only[ak,encS,fi] at h1
  simp(disch:=omega)only[↓wr,seval,wq,t2,t5,t12,t13,t14,p,CG O]
  refine⟨by omega,by rw[bF];omega,?_⟩
  intro E F
  rw[set_set]
  have d:(H'.set E (.arr 2 [[gi x.av,gi x.dot]])) E=.arr 2 [[gi x.av,gi x.dot]]:=by simp[View.set]
  have f:=D.fresh F (.arr 2 [[gi x.av,gi x.dot]])
  generalize H'.set E (.arr 2 [[gi x.av,gi x.dot]])=R at d f
  clear D F p
  try simp(disch:=omega)only[↓wr,seval,wq,t2,t5,d,ak,encS]
  refine aq.pure h1 ?_
  cases P with
  | false =>
   simp(disch:=omega)only[↓wr,seval,wq,t2,t5,t12,t13,t14]
   exact aJ hk (by omega) ⟨A,by rw[B];exact f.skip (by rw[b]),t2,t5,t12,t13,rfl⟩
  | true =>
  have hh:=wP w a b
  obtain⟨r1,r2⟩:=KD hh
  obtain⟨r3,r4⟩:=IY r1
  obtain⟨r,hr⟩:∃ r:Nat,mE g s=r:=⟨(mE g s).toNat,by omega⟩
  rw[hr,W8] at r4
  have S:=Rt g w s Q
  rw[hr] at S
  simp only[ak,encS] at S
  simp(disch:=omega)only[↓wr,seval,wq,t2,t5,ak,encS]
  refine aq.pure S ?_
  obtain⟨c,U⟩:=f.mp
  simp(disch:=omega)only[↓wr,seval,wq,t5]
  refine zm (kt:=3) (et:=103) (z:=.emp 1) (by kernel_rfl) (by kernel_rfl) (k5 .i64 Tryz.underlying3) (id:=q) (c:=c) (m:=A) (k:=(r:Int)) (by simp(disch:=omega)only[↓wr,seval,wq]) (by simp(disch:=omega)only[↓wr,seval,wq]) U ?_
  have ar:=f.val r
  have ab:∀ n o,R n=.dead->(R.set n o) E=.arr 2 [[gi x.av,gi x.dot]]:=λn o L=>by
   have:E≠n:=by rintro rfl;rw[d] at L;simp at L
   simp[View.set,this,d]
  try simp(disch:=omega)only[↓wr,seval,wq,d]
  intro W X
  have C:=f.fresh X (.arr 2 [[gi x.av,gi (x.dot+1)]])
  have t:=C.val r
  have Y:bD (R.set W (.arr 2 [[gi x.av,gi (x.dot+1)]])) (.sl W 0 1 2)=some ([[gi x.av,gi (x.dot+1)]],[W]):=by simp[bD,View.set]
  simp(disch:=omega)only[↓wr,seval,wq,Y]
  have Z:=A5 (g:=g) (l:=l.take i) (s:=bg g r)
  rw[XD] at Z
  refine iv t (by simp[aE]) (by unfold aD;rw[bF];simp;omega) (by unfold aD;rw[bF];simp;omega) ?_
  intro v' H6 o6 l6
  obtain⟨K,h⟩:=C.mp
  have G:owner ((getM A (r:Int)).getD (.emp 1))≠some q:=λe=>by
   have:=(t.live e).1
   rw[h] at this;simp at this
  have I:H6 q=.map (bV (Value.int .i64) A) K:=by
   rw[(l6 q (by rw[h];simp) G).1,h]
  simp(disch:=omega)only[↓wr,seval,wq,t5]
  refine uk (kt:=3) (et:=103) (by kernel_rfl) (k5 .i64 Tryz.underlying3) (id:=q) (c:=K) (m:=A) (k:=(r:Int)) (v:=v') (by simp(disch:=omega)only[↓wr,seval,wq]) (by simp(disch:=omega)only[↓wr,seval,wq]) (by simp(disch:=omega)only[↓wr,seval,wq]) I ?_
  intro c'
  simp(disch:=omega)only[↓wr,seval,wq,t2,t5,t12,t13,t14]
  have J:=C.put (y:=x) (r:=r) (by rw[b,r4]) (H1:=H6) (v':=v') (by
   have e:bM (bA g (l.take i) (bg g r) ++ [⟨x.av,x.dot+1⟩])=bM (bA g (l.take i) (bg g r)) ++ [[gi x.av,gi (x.dot+1)]]:=by simp[bM,fi]
   rw[e];exact o6) l6 K c'
  exact aJ hk (by omega) ⟨bz (r:Int) v' K A,by rw[B];exact J,t2,t5,t12,t13,rfl⟩
 .rw[WT (by omega)] at D
  simp(disch:=omega)only[↓wr,seval,wq,t5]
  exact⟨q,A,rfl,D⟩
theorem aq.still {P:Program} {f:FuncId} {vs:List V} {H:View} {K:V->View->Prop} {w:ct (H,K)} {a:V->View->Prop} (b:ao P f vs H a) (c:∀ r H',a r H'->∀ id,H id≠.dead->H' id=H id) (hk:∀ r H',a r H'->K r H'):aq P true f vs H K w:=by
 unfold aq
 simp only[if_true]
 exact(b.mono λr H' h=>⟨c r H' h,hk r H' h⟩).MK
theorem bu.join {H:View} {L M:List ed} (h:bu H L) (k:bu H M) (g:∀ x∈L,∀ y∈M,∀ id,owner x.1=some id->owner y.1≠some id):bu H (L ++ M):=by
 refine⟨λx c=>?_,?_⟩
 .rcases WN.1 c with c | c
  .exact h.1 x c
  .exact k.1 x c
 .rw[List.filterMap_append,XV]
  refine⟨h.2,k.2,λa i b j e=>?_⟩
  obtain⟨x,c,d⟩:=XR.1 i
  obtain⟨y,l,f⟩:=XR.1 j
  subst e
  exact g x c y l a d f
theorem bu.sub {H:View} {L M:List ed} (h:bu H L) (a:M.Sublist L):bu H M :=
 ⟨λx b=>h.1 x (a.subset b),h.2.sublist (a.filterMap _)⟩
theorem M8 {l:List aK} (g:cR l) (i:l.length<=100000) (u:V) (H:View) (b:aH H u 2 (bM l)):ao Tryz.prog 124 [u] H λr H'=>H=H'/\aH H r 2 (bM l)/\(l≠[]->r=u):=by
 refine(K3 l i u H b).mono ?_
 rintro r H' ⟨j,k2,a⟩
 rw[LG g] at k2
 have e:H'=H:=by
  funext id
  by_cases h:owner u=some id
  .rw[(b.live h).1,(k2.live (by rw[a];exact h)).1]
  .exact j id h
 subst e
 refine⟨rfl,k2,λc=>?_⟩
 have hp:0 < (bM l).length:=by rw[bF];exact Yx.2 c
 obtain⟨n,d,_⟩:=b.sl hp
 obtain⟨m,f,_⟩:=k2.sl hp
 rw[d,f] at a
 simp only[owner,Wu] at a
 rw[d,f,a]
def qM (g:ag) (out:List aR) (M:bQ (List UInt8)):Prop:=∀ l:List aK,(∀ x∈l,c7 g x)->getM M (fY l)=if findD out l < 0 then none else some (gi (findD out l))
theorem EV:∀ {a b:List aR},a.map aR.bt=b.map aR.bt->∀ k,findD a k=findD b k
 | [],[],_,_=>rfl
 | [],_ :: _,h,_=>by simp at h
 | _ :: _,[],h,_=>by simp at h
 | s :: a,t :: b,h,k=>by
  simp only[WZ,List.cons.injEq] at h
  rw[findD,findD,h.1,EV h.2 k]
theorem Bi:∀ (a:List aR) (s:aR) (k:List aK),findD (a ++ [s]) k=if 0<=findD a k then findD a k else if s.bt=k then (a.length:Int) else -1
 | [],s,k=>by by_cases e:s.bt=k <;> simp[findD,e]
 | t :: a,s,k=>by
  have b:=Bi a s k
  have h1:=wL a k
  rw[Xh,findD,findD,b]
  simp only[WD]
  push_cast
  by_cases e:t.bt=k <;> by_cases c:s.bt=k <;> by_cases d:0<=findD a k <;> simp only[e,c,d,if_true,if_false] <;> (repeat' split) <;> omega
theorem qM.same {g:ag} {a b:List aR} {M:bQ (List UInt8)} (h:qM g a M) (e:a.map aR.bt=b.map aR.bt):qM g b M:=λl c=>by
 rw[h l c,EV e]
theorem qM.put {g:ag} (d:g.cP) {out:List aR} {M:bQ (List UInt8)} (h:qM g out M) {k:List aK} (hk:∀ x∈k,c7 g x) (i:findD out k < 0) (c:Nat):qM g (out ++ [⟨k,[]⟩]) (bz (fY k) (gi out.length) c M):=λl a=>by
 have h1:=Bi out ⟨k,[]⟩ l
 have j:=wL out l
 rw[kh]
 by_cases e:l=k
 .subst e
  rw[Ws (by omega),Wv rfl] at h1
  rw[h1,beq_self_eq_true,Wv rfl,Ws (by omega)]
 .have f:(fY l == fY k)=false:=beq_eq_false_iff_ne.2 λh=>e (ID d a hk h)
  rw[f,h l a]
  simp only[WR,if_false]
  by_cases b:0<=findD out l
  .rw[Wv b] at h1
   rw[h1]
  .rw[Ws b,Ws (λh=>e h.symm)] at h1
   rw[h1,Wv (by omega),Wv (by omega)]
theorem GX {A:bQ Int} {k:Nat} {v:V} (d:(A.map (·.1)).Nodup) (h:getM A (k:Int)=some v):∃ b,(A.filter (λx=>decide (((k:Nat):Int)<=x.1))).Perm (((k:Int),v,b) :: A.filter (λx=>decide (((k+1:Nat):Int)<=x.1))):=by
 obtain⟨g,f,b,rfl,a,_⟩:=vX h
 rw[W6,WZ,XV] at d
 have c:(k:Int) ∉ f.map (·.1):=(Xq.1 d.2.1).1
 have e:∀ B:bQ Int,(k:Int) ∉ B.map (·.1)->B.filter (λx=>decide (((k:Nat):Int)<=x.1))=B.filter (λx=>decide (((k+1:Nat):Int)<=x.1)):=λB i=>List.filter_congr λx j=>by
  have:x.1≠(k:Int):=λe=>i (WQ.2 ⟨x,j,e⟩)
  rw[decide_eq_decide];omega
 refine⟨b,?_⟩
 rw[Yn,Yn,List.filter_cons,List.filter_cons,Wv (by simp),Ws (by simp only[WH];push_cast;omega),e g a,e f c]
 exact List.perm_middle
theorem Vb {α:Type} {e u r:α} {S X Y:List α} (h:X.Perm (r :: Y)):(e :: u :: (S ++ X)).Perm (u :: ((S ++ [r,e]) ++ Y)):=by
 refine(List.Perm.swap _ _ _).trans (.cons _ ?_)
 rw[Xp]
 refine((h.append_left S).cons e).trans ?_
 exact List.perm_middle.symm.trans ((List.Perm.swap _ _ _).append_left S)
theorem F4 {α:Type} {u k e:α} {S R:List α} : (u :: (S ++ k :: e :: R)).Perm (e :: u :: (S ++ k :: R)):=by
 have h:(S ++ k :: e :: R).Perm (e :: (S ++ k :: R)):=by
  have:=List.perm_middle (a:=e) (l₁:=S ++ [k]) (l₂:=R)
  simpa using this
 exact(h.cons u).trans (List.Perm.swap _ _ _)
def uN:SC :=
 ai [af [aZ 49 .lss 48 47],cp 49 (.exit 2),.block 3 (ai [af [aa 50 48,aa 9 50],af [aa 51 8,aa 52 9,((some 53),.op (.old (.lookup 209 (.tmp 51) (.tmp 52) false) 103)),aT 54 124 [53],aa 10 54],ai [af [aa 55 10,aQ 56 55,aF 57 .eql 56 0],bf 57 (.exit 3)],af [aa 58 9,aa 11 58],ai [af [aa 59 9,ay 60 0 1,au 61 60,aQ 62 61,aZ 63 .geq 59 62],bf 63 (af [ay 64 0 1,au 65 64,aQ 66 65,aF 67 .sub 66 1,aa 68 9,aZ 69 .sub 67 68,aa 11 69])],af [aa 71 6,aa 72 10,aT 73 121 [72],((some 74),.op (.old (.lookup 208 (.tmp 71) (.tmp 73) true) 66)),aa 70 74,dO 75 0 70,dO 76 1 70,aa 12 75,aa 13 76],ai [af [aa 77 13,cW 78 77],bf 78 (ai [af [aa 79 5,aQ 80 79,aa 12 80],af [aa 81 6,aa 82 10,aT 83 121 [82],aa 84 12,(none,.op (.old (.mapUpdate 208 (.tmp 81) (.tmp 83) (.tmp 84)) 0))],af [aa 85 5,aa 86 10,((some 87),.op (.build [(.emp 1),(.emp 1)] [(0,1,(.tmp 86))])),((some 88),.op (.bS 1 2 [(.emp 1),(.emp 1)] [(0,(.tmp 87))])),iR 89 2 48 85 88,aa 5 89]])],af [aa 90 5,aa 91 7,aa 92 5,aa 93 7,aY 94 2 92 93,ay 95 1 94,au 96 95,aa 97 11,aa 98 12,((some 99),.op (.build [(.val (.int .i64 0)),(.val (.int .i64 0))] [(0,1,(.tmp 97)),(1,1,(.tmp 98))])),((some 100),.op (.bS 1 2 [(.val (.int .i64 0)),(.val (.int .i64 0))] [(0,(.tmp 99))])),iR 101 2 16 96 100,aY 102 2 90 91,ay 103 1 102,df 1 103 101]]),af [aF 104 .add 48 1,aa 48 104]]
def uU:SC :=
 ai [ai [af [aa 26 7,aa 27 5,aQ 28 27,aZ 29 .lss 26 28],cp 29 (.exit 0)],.block 1 (ai [.region true [⟨none,[bj 32 4 1,bj 33 4 1,aa 34 5,aa 35 7,aY 36 2 34 35,ay 37 0 36,au 38 37,aT 39 123 [33,38],aT 40 122 [32,39],aa 8 40]⟩],ai [af [ay 41 0 1,au 42 41,aQ 43 42,ay 44 1 1,au 45 44,aQ 46 45,aZ 47 .add 43 46,bb 48 0],cz 2 uN],af [aa 105 5,aQ 106 105,aF 107 .gtr 106 300],bf 107 (ai [af [b7 2 1,bb 3 5],.ret])]),af [aa 30 7,aF 31 .add 30 1,aa 7 31]]
def yc:SF:=⟨ai [af [cJ 1 0,b7 2 1,bb 3 0],ai [af [bj 14 4 1,aT 15 82 [14],cW 16 15],bf 16 (ai [af [b7 2 1,bb 3 1],.ret])],af [((some 17),.op (.build [(.val (.int .i64 0)),(.val (.int .i64 0))] [(0,1,(.val (.val (.int .i64 (-1)))))])),((some 18),.op (.bS 1 2 [(.val (.int .i64 0)),(.val (.int .i64 0))] [(0,(.tmp 17))])),aa 4 18],af [aa 19 4,((some 20),.op (.build [(.emp 1),(.emp 1)] [(0,1,(.tmp 19))])),((some 21),.op (.bS 1 2 [(.emp 1),(.emp 1)] [(0,(.tmp 20))])),aa 5 21],af [((some 22),.op (.oo)),aa 23 4,aT 24 121 [23],(none,.op (.old (.insert 208 (.tmp 22) (.tmp 24) (.const (.int .i64 0))) 0)),aa 25 22,aa 6 25],ai [af [bb 7 0],cz 0 uU],af [aa 108 5,aa 2 108,bb 3 0],.ret],
 [.tmp 2,.tmp 3],109⟩
theorem Bz:aG Tryz.prog 60 [1]=some yc:=by kernel_rfl
def V8 (g:ag) (m:Nat) (T:Env) (H:View):Prop:=∃ (at_:Nat) (u:V) (S:List uV) (out:List aR) (q c:Nat) (M:bQ (List UInt8)),m+at_=302/\out=S.map (λx=>x.2.2)/\bu H ((u,2,jR S) :: tc S)/\dN g at_ 0 out/\1<=out.length/\out.length<=300/\fZ g m at_ out=cn g/\at_<=out.length /\
 H q=.map (bV ij M) c/\qM g out M/\T 1=.aN (ak g) 0/\T 5=u/\T 6=.mp q/\T 7=gi at_
theorem PV (g:ag) (hg:g.Ok) (fl:g.Small):cd Tryz.prog 60 [.agg (ak g)] (.aO [fH (cn g).1,gi (cn g).2]):=by
 refine cd.of (eR g) ?_
 have da:=NI g hg fl
 refine ao.of mixed Bz ?_
 simp only[ak,encS] at da
 simp(disch:=omega)only[↓wr,seval,wq,yc,ak,encS]
 refine aq.pure da ?_
 simp(disch:=omega)only[↓wr,seval,wq]
 apply aj.split<;>intro hr
 rotate_left
 .simp(disch:=omega)only[↓wr,seval,wq]
  intro h' _
  have e:cn g=([],1):=by unfold cn;rw[Ws (by rw[hr];simp)]
  rw[e]
  exact uZ (.emp _)
 have N:g.cP:=vr hr
 have e0:fZ g 302 0 eE=cn g:=by unfold cn;rw[Wv hr]
 have hT:=N.an;have hN:=N.ax
 simp(disch:=omega)only[↓wr,seval,wq]
 intro Y q2 O q3 dc
 have ca:c7 g ⟨-1,0⟩:=(mU (g:=g)).bt ⟨[⟨-1,0⟩],[]⟩ (by simp[eE]) |>.2.2 _ (by simp)
 have o0:bu (((View.set (λ_=>bN.dead) Y (.arr 2 [[gi (-1),gi 0]])).set q2 (.arr 2 [[.sl Y 0 1 2,.emp 1]]))) ((.sl q2 0 1 2,2,jR [(.sl Y 0 1 2,.emp 1,⟨[⟨-1,0⟩],[]⟩)]) :: tc [(.sl Y 0 1 2,.emp 1,⟨[⟨-1,0⟩],[]⟩)]) :=
  (((bu.nil.emp (k:=1) (sz:=2)).new (n:=Y) rfl 2 [[gi (-1),gi 0]]).new (by simpa [View.set] using O) 2 [[.sl Y 0 1 2,.emp 1]])
 have o1:=o0.fresh (n:=q3) (by simpa [View.set] using dc) (o:=.map [] 0)
 have b2:((((View.set (λ_=>bN.dead) Y (.arr 2 [[gi (-1),gi 0]])).set q2 (.arr 2 [[.sl Y 0 1 2,.emp 1]])).set q3 (.map [] 0))) q3=.map (bV ij []) 0:=by simp[View.set,bV]
 generalize (((View.set (λ_=>bN.dead) Y (.arr 2 [[gi (-1),gi 0]])).set q2 (.arr 2 [[.sl Y 0 1 2,.emp 1]])).set q3 (.map [] 0))=H3 at o1 b2 ⊢
 clear o0 O dc
 have dj:aH H3 (.sl Y 0 1 2) 2 (bM [⟨-1,0⟩]):=o1.1 _ (W9 _ (XE ..))
 refine aq.bX ((IV g N [⟨-1,0⟩] (λx Z=>by simp at Z;subst Z;exact ca) (by simp) (.sl Y 0 1 2) H3 dj).mono ?_)
 rintro r H4 ⟨rfl,k4⟩
 have cv:H4 q3=.map (bV ij []) 0:=by rw[k4 q3 (by rw[b2];simp),b2]
 simp(disch:=omega)only[↓wr,seval,wq,Uc]
 refine uk (kt:=9) (et:=3) (by kernel_rfl) (HY Tryz.underlying9) (id:=q3) (c:=0) (m:=[]) (k:=fY [⟨-1,0⟩]) (v:=gi 0) (by simp(disch:=omega)only[↓wr,seval,wq]) (by simp(disch:=omega)only[↓wr,seval,wq]) rfl cv ?_
 intro L
 have ds:qM g eE (bz (fY [⟨-1,0⟩]) (gi 0) 0 []):=qM.put (out:=[]) N (λl _=>by simp[getM,findD]) (λx Z=>by simp at Z;subst Z;exact ca) (by simp[findD]) 0
 have o2:=(o1.stay k4).B4 cv (o:=.map (bV ij (bz (fY [⟨-1,0⟩]) (gi 0) 0 [])) L)
 have cC:(H4.set q3 (.map (bV ij (bz (fY [⟨-1,0⟩]) (gi 0) 0 [])) L)) q3=.map (bV ij (bz (fY [⟨-1,0⟩]) (gi 0) 0 [])) L:=by simp[View.set]
 generalize H4.set q3 (.map (bV ij (bz (fY [⟨-1,0⟩]) (gi 0) 0 [])) L)=H5 at o2 cC ⊢
 clear cv b2 k4 dj o1
 clear H4 H3
 simp(disch:=omega)only[↓wr,seval,wq]
 refine bk.intro (V8 g) 302 ⟨0,_,_,eE,q3,L,_,rfl,rfl,o2,mU,Wz _,by simp[eE],e0,by omega,cC,ds,rfl,rfl,rfl,rfl⟩ ?_
 clear o2 cC ds
 clear H5 Y q2 q3 L
 rintro m T H ⟨at_,u,S,out,q,c,M,hm,rfl,P,hI,h1,cb,hl,hle,w,G,t1,t5,t6,t7⟩
 have a1:cT u=some S.length:=by rw[P.head.len,gV]
 simp only[WG] at h1 cb hle
 simp(disch:=omega)only[↓wr,seval,wq,uU,t1,t5,t6,t7,a1]
 apply aj.dec<;>intro hc
 rotate_left
 .simp(disch:=omega)only[↓wr,seval,wq,t5]
  have e1:cn g=(S.map (λx=>x.2.2),0):=by
   rw[<-hl]
   cases m with
   | zero=>rfl
   | succ m=>rw[fZ,Ws (by simp;omega)]
  rw[e1]
  rintro h' rfl
  exact uZ (Tl P.head λx Z=>⟨P.1 _ (W9 _ (DO Z).1),P.1 _ (W9 _ (DO Z).2)⟩)
 obtain⟨m,rfl⟩:∃ q,m=q+1:=⟨m - 1,by omega⟩
 have a6:at_ < S.length:=by omega
 obtain⟨d,x,t,rfl,ab,Z⟩:=Hs a6
 have cI:x∈d ++ x :: t:=by simp
 obtain⟨dv,fm,a7⟩:=hI.bt x.2.2 (List.mem_map_of_mem cI)
 have fs:=Hw N dv a7
 have hh:aH H u 2 (jR (d ++ x :: t)):=P.head
 obtain⟨id,hu,C⟩:=hh.sl (by rw[gV];omega)
 have a8:(jR (d ++ x :: t)).getD at_ []=[x.1,x.2.1]:=by simp[jR,Wo,<-ab]
 have ea:c9 g ((List.map (λx=>x.2.2) (d ++ x :: t)).getD at_ bG).bt=c9 g x.2.2.bt:=by
  rw[Wo,Ww,Z];rfl
 have cc:=λn hn=>dN.row (hI.nQ N (show at_ < ((d ++ x :: t).map λx=>x.2.2).length by simpa using a6)).1 (hI.nQ N (show at_ < ((d ++ x :: t).map λx=>x.2.2).length by simpa using a6)).2 hI n hn
 rw[fZ,Wv (by simpa using a6),vZ] at hl
 rw[ea] at hl cc
 have eb:=vM g x.2.2.bt
 have cN:∀ y∈c9 g x.2.2.bt,c7 g y:=λy hy=>((gO N a7).1 hy).has a7
 rw[gV] at hu
 simp(disch:=omega)only[↓wr,seval,wq,t1,t5,t7,hu,C,a8,ak,encS]
 refine⟨by omega,by rw[gV];omega,?_⟩
 refine aq.D5 (Jb g N x.2.2.bt a7 (by omega) x.1 H (P.1 _ (W9 _ (DO cI).1))) ?_
 intro r H2 or fr
 simp(disch:=omega)only[↓wr,seval,wq,ak,encS]
 have gr:=Hw N eb cN
 refine aq.still (QT g N (c9 g x.2.2.bt) cN (by omega) r H2 or) (λr H' h=>by obtain⟨q,A,_,h⟩:=h;exact h.old) ?_
 rintro r2 H6 ⟨U,A,rfl,D⟩
 have cS:∀ id,H id≠.dead->H6 id=H id:=λid C=>by rw[D.old id (by rw[(fr id C).1];exact C),(fr id C).1]
 have cf:H6 q=.map (bV ij M) c:=by rw[cS q (by rw[w];simp),w]
 have o6:bu H6 ((u,2,jR (d ++ x :: t)) :: (tc (d ++ x :: t) ++ ji g (c9 g x.2.2.bt) (A.filter λy=>decide (((0:Nat):Int)<=y.1)))):=by
  have hA:A.filter (λy=>decide (((0:Nat):Int)<=y.1))=A:=List.filter_eq_self.2 λy hy=>by simpa using (D.ne y hy).1
  rw[hA]
  refine(P.stay cS).join (M:=ji g (c9 g x.2.2.bt) A) D.own λa ha b hb id h1 h2=>?_
  obtain⟨y,hy,rfl⟩:=WQ.1 hb
  have h3:=D.new y hy id h2
  have h4:=P.live ha h1
  rw[(fr id h4).1] at h3
  exact h4 h3
 obtain⟨cA,Q⟩:=D.mp
 have hAnd:=D.nd
 have ft:U≠q:=by
  rintro rfl
  have:=D.q0
  rw[(fr _ (by rw[w];simp)).1,w] at this;simp at this
 have bd:∀ k:Nat,(getM A (k:Int)=none->bA g (c9 g x.2.2.bt) (bg g k)=[]):=λk h=>X5 λae=>getM_none.1 h (D.all k ae)
 clear or fr C a8 ea Z cS D w
 generalize c9 g x.2.2.bt=cl at *
 generalize E:(d ++ x :: t).map (λx=>x.2.2)=bl at *
 have ee:bl.length=(d ++ x :: t).length:=by rw[<-E];simp
 simp(disch:=omega)only[↓wr,seval,wq,t1,t5,t6,t7,ak,encS]
 refine bk.up (g.an.length+g.ax.length) (λi T H'=>∃ (u:V) (S:List uV) (M:bQ (List UInt8)) (c:Nat),S.map (λx=>x.2.2)=(List.range i).foldl (dL g cl at_) bl/\bu H' ((u,2,jR S) :: (tc S ++ ji g cl (A.filter λy=>decide (((i:Nat):Int)<=y.1)))) /\
  H' U=.map (bV (Value.int .i64) A) cA/\H' q=.map (bV ij M) c/\qM g (S.map λx=>x.2.2) M/\T 1=.aN (ak g) 0/\T 5=u/\T 6=.mp q/\T 7=gi at_/\T 8=.mp U/\T 47=gi ((g.an.length+g.ax.length:Nat):Int)/\T 48=gi i)
  ⟨u,_,M,c,E,o6,Q,cf,by rw[E];exact G,t1,by rw[<-hu];exact t5,t6,t7,rfl,?_,rfl⟩ ?_
 .push_cast;rfl
 rw[<-ee] at h1 cb hle a6
 clear o6 P hh hu t1 t5 t6 t7 a1 E cI ee hc dv fm a7 fs ab Q cf G
 clear u H H2 H6 T id d x t M c r
 rintro i k T H' hk ⟨u,S,M,c,hA,P,Q,w,G,t1,t5,t6,t7,t8,t47,t48⟩
 obtain⟨iI,ef,eg⟩:=cc i (by omega)
 rw[<-hA] at iI ef eg
 rw[WG] at ef eg
 have a1:cT u=some S.length:=by rw[P.head.len,gV]
 simp(disch:=omega)only[↓wr,seval,wq,uN,t1,t5,t6,t7,t8,t47,t48]
 apply aj.dec<;>intro hc
 rotate_left
 .have hi:i=g.an.length+g.ax.length:=by omega
  subst hi
  rw[<-hA] at hl
  simp(disch:=omega)only[↓wr,seval,wq,t1,t5,t6,t7,a1]
  apply aj.dec<;>intro h3
  .simp(disch:=omega)only[↓wr,seval,wq]
   intro h' _
   rw[Wv (by rw[WG];omega)] at hl
   rw[<-hl]
   exact uZ (.emp _)
  .simp(disch:=omega)only[↓wr,seval,wq,t1,t5,t6,t7]
   rw[Ws (by rw[WG];omega)] at hl
   exact⟨m,by omega,at_+1,u,S,_,q,c,M,by omega,rfl,P.sub (List.Sublist.cons_cons _ (List.sublist_append_left _ _)),iI.next,by rw[WG];omega,by rw[WG];omega,hl,by rw[WG];omega,w,G,t1,t5,t6,rfl⟩
 have fv:i < g.an.length+g.ax.length:=by omega
 have hd:=L7 N fv
 have bn:(List.range (i+1)).foldl (dL g cl at_) bl=dL g cl at_ (S.map λx=>x.2.2) i:=by rw[X4,X2,<-hA];rfl
 have ej:aH H' ((getM A (i:Int)).getD (.emp 1)) 2 (bM (bA g cl (bg g i))):=by
  cases hg:getM A (i:Int) with
  | none=>rw[bd i hg];exact .nil
  | some v =>
   obtain⟨b,hp⟩:=GX hAnd hg
   refine P.1 (v,2,bM (bA g cl (bg g i))) (W9 _ (List.mem_append_right _ (WQ.2 ⟨((i:Int),v,b),hp.mem_iff.2 (by simp),?_⟩)))
   simp
 have ch:(ji g cl (A.filter λy=>decide (((i+1:Nat):Int)<=y.1))).Sublist (ji g cl (A.filter λy=>decide (((i:Nat):Int)<=y.1))):=by
  have:A.filter (λy=>decide (((i+1:Nat):Int)<=y.1))=(A.filter (λy=>decide (((i:Nat):Int)<=y.1))).filter (λy=>decide (((i+1:Nat):Int)<=y.1)):=by
   rw[List.filter_filter]
   refine List.filter_congr λy _=>?_
   rw[<-Bool.decide_and,decide_eq_decide];omega
  rw[this]
  exact(List.filter_sublist).map _
 simp(disch:=omega)only[↓wr,seval,wq,t8,t48]
 refine zm (kt:=3) (et:=103) (z:=.emp 1) (by kernel_rfl) (by kernel_rfl) (k5 .i64 Tryz.underlying3) (id:=U) (c:=cA) (m:=A) (k:=(i:Int)) (by simp(disch:=omega)only[↓wr,seval,wq]) (by simp(disch:=omega)only[↓wr,seval,wq]) Q ?_
 simp(disch:=omega)only[↓wr,seval,wq]
 refine aq.bX ((M8 (Fs (bg g i) eb) (by have:=A5 (g:=g) (l:=cl) (s:=bg g i);omega) _ H' ej).mono ?_)
 rintro r _ ⟨rfl,or,ek⟩
 have hj:=A5 (g:=g) (l:=cl) (s:=bg g i)
 have b3:=Ij (s:=bg g i) cN
 have fx:cT r=some (bA g cl (bg g i)).length:=by rw[or.len,bF]
 simp(disch:=omega)only[↓wr,seval,wq,fx]
 apply aj.eq<;>intro he
 .have e3:bA g cl (bg g i)=[]:=XY.1 (by omega)
  simp(disch:=omega)only[↓wr,seval,wq,t1,t5,t6,t7,t8,t47,t48]
  exact aJ hk (by omega) ⟨u,S,M,c,by rw[bn,dL,Wv e3],P.sub (List.Sublist.cons_cons _ (ch.append_left _)),Q,w,G,t1,t5,t6,t7,t8,t47,rfl⟩
 have ae:bA g cl (bg g i)≠[]:=λe=>he (by rw[e];rfl)
 have fy:∃ v,getM A (i:Int)=some v:=by
  cases hg:getM A (i:Int) with
  | none=>exact absurd (bd i hg) ae
  | some v=>exact⟨v,rfl⟩
 obtain⟨v,hg⟩:=fy
 have cV:=ek ae
 rw[hg] at cV
 simp only[WJ] at cV
 obtain⟨b,c3⟩:=GX hAnd hg
 have b4:(ji g cl (A.filter λy=>decide (((i:Nat):Int)<=y.1))).Perm ((r,2,bM (bA g cl (bg g i))) :: ji g cl (A.filter λy=>decide (((i+1:Nat):Int)<=y.1))):=by
  have:=c3.map (λx:Int × V × Nat=>((x.2.1,2,bM (bA g cl (bg g x.1.toNat))):ed))
  simp only[WZ,W8] at this
  rw[cV];exact this
 have fz:=AF (S.map λx=>x.2.2) (bA g cl (bg g i))
 have hq:=wL (S.map λx=>x.2.2) (bA g cl (bg g i))
 rw[WG] at fz
 have b5:=G (bA g cl (bg g i)) b3
 have e4:at_ < S.length:=by omega
 obtain⟨d,x,t,I,ab,Z⟩:=Hs e4
 have ht:x.2.2.cK.length<=40:=(iI.cK at_ x.2.2 (by rw[Ww,Z];rfl)).1
 have a8:∀ B,(jR (d ++ x :: B)).getD at_ []=[x.1,x.2.1]:=λB=>by simp[jR,Wo,<-ab]
 have e5:∀ (B:List uV) (c:fL),((d ++ x :: B).map λx=>x.2.2).modify at_ (λs=>(⟨s.bt,s.cK ++ [c]⟩:aR))=(d ++ (x.1,x.2.1,(⟨x.2.2.bt,x.2.2.cK ++ [c]⟩:aR)) :: B).map λx=>x.2.2:=λB c=>by
  rw[W6,WZ,<-ab,<-WG (f:=λx:uV=>x.2.2),MP,W6,WZ]
 simp(disch:=omega)only[↓wr,seval,wq,t1,t5,t6,t7,t8,ak,encS]
 apply aj.dec<;>intro ga
 simp(disch:=omega)only[↓wr,seval,wq,t1,t5,t6,t7,t8,ak,encS]
 have hs:bg g i=(g.an.length:Int) - 1 - i:=by unfold bg;rw[Ws (by omega)];omega
 generalize (g.an.length:Int) - 1 - (i:Int)=sv at hs ⊢
 rotate_left
 simp(disch:=omega)only[↓wr,seval,wq,t1,t5,t6,t7,t8,ak,encS]
 have hs:bg g i=(i:Int):=by unfold bg;rw[Wv (by omega)]
 generalize ((i:Nat):Int)=sv at hs ⊢
 all_goals (
  refine aq.bX ((IV g N (bA g cl (bg g i)) b3 (by omega) r H' or).mono ?_)
  rintro rk H3 ⟨rfl,k3⟩
  have W:H3 q=.map (bV ij M) c:=by rw[k3 q (by rw[w];simp),w]
  have br:H3 U=.map (bV (Value.int .i64) A) cA:=by rw[k3 U (by rw[Q];simp),Q]
  have o3:=P.stay k3
  have gd:aH H3 r 2 (bM (bA g cl (bg g i))):=or.keep λid C=>k3 id (by rw[(or.live C).1];simp)
  simp(disch:=omega)only[↓wr,seval,wq,t6]
  refine Sj (kt:=9) (et:=3) (z:=gi 0) (by kernel_rfl) (by kernel_rfl) (HY Tryz.underlying9) (id:=q) (c:=c) (m:=M) (k:=fY (bA g cl (bg g i))) (by simp(disch:=omega)only[↓wr,seval,wq]) (by simp(disch:=omega)only[↓wr,seval,wq]) W ?_
  by_cases J:findD (S.map λx=>x.2.2) (bA g cl (bg g i)) < 0
  rw[Wv J] at b5
  rw[b5]
  simp only[Option.getD_none,Option.isSome_none]
  simp(disch:=omega)only[↓wr,seval,wq,t1,t5,t6,t7,t8,a1]
  refine aq.bX ((IV g N (bA g cl (bg g i)) b3 (by omega) r H3 gd).mono ?_)
  rintro hv H4 ⟨rfl,k4⟩
  have bs:H4 q=.map (bV ij M) c:=by rw[k4 q (by rw[W];simp),W]
  have cj:H4 U=.map (bV (Value.int .i64) A) cA:=by rw[k4 U (by rw[br];simp),br]
  have o4:=o3.stay k4
  simp(disch:=omega)only[↓wr,seval,wq,t6]
  refine uk (kt:=9) (et:=3) (by kernel_rfl) (HY Tryz.underlying9) (id:=q) (c:=c) (m:=M) (k:=fY (bA g cl (bg g i))) (v:=gi S.length) (by simp(disch:=omega)only[↓wr,seval,wq]) (by simp(disch:=omega)only[↓wr,seval,wq]) (by simp(disch:=omega)only[↓wr,seval,wq]) bs ?_
  intro L
  have R:qM g ((d ++ x :: (t ++ [(r,.emp 1,(⟨bA g cl (bg g i),[]⟩:aR))])).map λx=>x.2.2) (bz (fY (bA g cl (bg g i))) (gi S.length) c M):=by
   have:=qM.put N G b3 J c
   rw[WG] at this
   refine this.same ?_
   rw[I];simp
  have K:(H4.set q (.map (bV ij (bz (fY (bA g cl (bg g i))) (gi S.length) c M)) L)) q=.map (bV ij (bz (fY (bA g cl (bg g i))) (gi S.length) c M)) L:=by simp[View.set]
  have X:(H4.set q (.map (bV ij (bz (fY (bA g cl (bg g i))) (gi S.length) c M)) L)) U=.map (bV (Value.int .i64) A) cA:=by
   simp only[View.set];rw[Ws ft];exact cj
  have o5:=o4.B4 bs (o:=.map (bV ij (bz (fY (bA g cl (bg g i))) (gi S.length) c M)) L)
  generalize H4.set q (.map (bV ij (bz (fY (bA g cl (bg g i))) (gi S.length) c M)) L)=H5 at K X o5 ⊢
  clear bs cj o4 k4
  generalize bz (fY (bA g cl (bg g i))) (gi S.length) c M=M2 at R K
  simp(disch:=omega)only[↓wr,seval,wq,t1,t5,t6,t7,t8,or.cells,or.fF]
  intro q5 bx
  simp(disch:=omega)only[↓wr,seval,wq,bY]
  have al:∀ b,H5 b≠.dead->b≠q5:=λb hb e=>hb (by rw[e];exact bx)
  refine gE (o5.fresh bx) (by simp[or.fF,Dg]) (by unfold aD;rw[gV];simp;omega) (by unfold aD;rw[gV];simp;omega) ?_
  intro u2 b8 e6 c4
  have j:=c4.map (o5.fresh (o:=.arr 2 [[r,.emp 1]]) bx).head (b:=q) (c:=L) (es:=bV ij M2) (by simp only[View.set];rw[Ws (al q (by rw[K];simp)),K])
  have F:=c4.map (o5.fresh (o:=.arr 2 [[r,.emp 1]]) bx).head (b:=U) (c:=cA) (es:=bV (Value.int .i64) A) (by simp only[View.set];rw[Ws (al U (by rw[X];simp)),X])
  have e7:=(e6.emp (k:=1) (sz:=2)).perm (Vb b4)
  have ar:dL g cl at_ (S.map λx=>x.2.2) i=((d ++ x :: (t ++ [(r,.emp 1,(⟨bA g cl (bg g i),[]⟩:aR))])).map λx=>x.2.2).modify at_ (λs=>(⟨s.bt,s.cK ++ [⟨bg g i,(S.length:Int)⟩]⟩:aR)):=by
   rw[dL,Ws ae,Wv J,WG]
   congr 1
   rw[I];simp
  have p:bu b8 ((u2,2,jR (d ++ x :: (t ++ [(r,.emp 1,(⟨bA g cl (bg g i),[]⟩:aR))]))) :: (tc (d ++ x :: (t ++ [(r,.emp 1,(⟨bA g cl (bg g i),[]⟩:aR))])) ++ ji g cl (A.filter λy=>decide (((i+1:Nat):Int)<=y.1)))):=by
   have e1:jR (d ++ x :: (t ++ [(r,.emp 1,(⟨bA g cl (bg g i),[]⟩:aR))]))=jR S ++ [[r,.emp 1]]:=by rw[I];simp[jR]
   have e2:tc (d ++ x :: (t ++ [(r,.emp 1,(⟨bA g cl (bg g i),[]⟩:aR))]))=tc S ++ [(r,2,bM (bA g cl (bg g i))),(.emp 1,2,[])]:=by rw[I];simp[tc];rfl
   rw[e1,e2]
   exact e7
  have c5:(d ++ x :: (t ++ [(r,V.emp 1,(⟨bA g cl (bg g i),[]⟩:aR))])).length<=400:=by
   have:=XG List.length I
   simp at this ⊢;omega
  generalize (t ++ [(r,V.emp 1,(⟨bA g cl (bg g i),[]⟩:aR))])=B at ar p R c5
  generalize (S.length:Int)=to at ar ⊢
  clear e6 e7 c4 K X o5 al bx
  rotate_left
  rw[Ws J] at b5
  rw[b5]
  simp only[WJ,Option.isSome_some]
  simp(disch:=omega)only[↓wr,seval,wq,t1,t5,t6,t7,t8]
  have ar:dL g cl at_ (S.map λx=>x.2.2) i=((d ++ x :: t).map λx=>x.2.2).modify at_ (λs=>(⟨s.bt,s.cK ++ [⟨bg g i,findD (S.map λx=>x.2.2) (bA g cl (bg g i))⟩]⟩:aR)):=by
   rw[dL,Ws ae,Ws J,<-I]
  have p:=o3.sub (List.Sublist.cons_cons _ (ch.append_left _))
  have R:=G
  have c5:(d ++ x :: t).length<=400:=by rw[<-I];omega
  have j:=W
  have F:=br
  generalize H3=b8 at p j F ⊢
  generalize u=u2 at p t5 ⊢
  rw[I] at p R
  generalize findD (S.map λx=>x.2.2) (bA g cl (bg g i))=to at ar ⊢
  generalize t=B at ar p R c5
  generalize M=M2 at j R
  generalize c=L at j
  all_goals (
   obtain⟨id,hu,C⟩:=(show aH b8 u2 2 (jR (d ++ x :: B)) from p.head).sl (by rw[gV];simp;omega)
   rw[gV] at hu
   rw[K2] at p
   simp only[Xp,Xh] at p
   simp(disch:=omega)only[↓wr,seval,wq,t1,t5,t6,t7,t8,hu,C,a8 B]
   refine⟨by simp;omega,by rw[gV];simp;omega,?_⟩
   intro q2 O
   have al:∀ b,b8 b≠.dead->b≠q2:=λb hb e=>hb (by rw[e];exact O)
   simp(disch:=omega)only[↓wr,seval,wq,bY]
   refine gE ((p.perm F4).fresh O) (by simp[aE]) (by unfold aD;simp[p8];omega) (by unfold aD;simp[p8];omega) ?_
   intro e2 e8 b9 e9
   have b0:=e9.map ((p.perm F4).fresh (o:=.arr 2 [[gi sv,gi to]]) O).head (b:=q) (c:=L) (es:=bV ij M2) (by simp only[View.set];rw[Ws (al q (by rw[j];simp)),j])
   have b1:=e9.map ((p.perm F4).fresh (o:=.arr 2 [[gi sv,gi to]]) O).head (b:=U) (c:=cA) (es:=bV (Value.int .i64) A) (by simp only[View.set];rw[Ws (al U (by rw[F];simp)),F])
   have ck:e8 id=.arr 2 (jR (d ++ x :: B)):=((b9.own 1 rfl).live (by rw[hu];rfl)).1
   simp(disch:=omega)only[↓wr,seval,wq,t1,t5,t6,t7,t8,t47,t48,hu,ck,a8 B,b9.head.cells,b9.head.fF]
   have fb:(jR (d ++ x :: B)).set at_ [x.1,e2]=jR (d ++ (x.1,e2,(⟨x.2.2.bt,x.2.2.cK ++ [⟨bg g i,to⟩]⟩:aR)) :: B):=by
    rw[<-ab];simp[jR]
   have gk:p8 (x.2.2.cK ++ [⟨bg g i,to⟩])=p8 x.2.2.cK ++ [[gi sv,gi to]]:=by rw[hs];simp[p8,oJ]
   have ff:=b9.perm (.swap _ _ _)
   rw[hu] at ff
   have c6:=((ff.put (es':=jR (d ++ (x.1,e2,(⟨x.2.2.bt,x.2.2.cK ++ [⟨bg g i,to⟩]⟩:aR)) :: B)) (by rw[gV,gV];simp) (by rw[gV])).perm (.swap _ _ _)).perm F4.symm
   rw[<-gk] at c6
   rw[<-hu] at c6
   rw[fb]
   have cu:∀ b c es,e8 b=.map es c->b≠id:=λb c es hb e=>by rw[e,ck] at hb;simp at hb
   refine⟨by simp;omega,by rw[gV];simp;omega,aJ hk (by omega) ⟨u2,_,M2,L,?_,by rw[K2];simp only[Xp,Xh];exact c6,?_,?_,?_,t1,by first | rfl | exact t5 | exact hu.symm,t6,t7,t8,t47,rfl⟩⟩
   .rw[bn,ar,e5];simp
   .simp only[View.set];rw[Ws (cu U _ _ b1)];exact b1
   .simp only[View.set];rw[Ws (cu q _ _ b0)];exact b0
   .refine R.same ?_
    simp))
abbrev pU (g:ag) (a:List aR) (q:Nat) (us uf:V):List V:=[V.aL (g.an.map dp),.aL (g.ax.map λs=>[gs s]),.aL (g.rules.map aU),gi g.start,fH a,.mp q,us,uf]
def ta (H:View) (u:V) (l:List Int):Prop:=u=encI l∨∃ n x d,u=.sl n d l.length 1/\H n=.arr 1 [[gi x]]/\d<=1/\l=[x].drop d
theorem ta.mK {H:View} {u:V} {l:List Int} (h:ta H u l):cg H u (encI l):=by
 rcases h with rfl | ⟨n,x,d,rfl,c,f,a⟩
 .exact .tree (aX l)
 .have g:l.length=1 - d:=by rw[a];simp
  have:=cg.sl (off:=d) (len:=l.length) (esz:=1) c (by simp;omega) (by intro e he v b;simp at he;subst he;simp at b;subst b;exact .val _)
  rw[show (List.drop d [[gi x]]).take l.length=aM l by
   rw[a]
   match d,f with
   | 0,_=>rfl
   | 1,_=>rfl] at this
  exact this
theorem ta.keep {H H':View} {u:V} {l:List Int} (h:ta H u l) (hk:∀ id,H id≠.dead->H' id=H id):ta H' u l:=by
 rcases h with rfl | ⟨n,x,d,h1,a,b,c⟩
 .exact .inl rfl
 .exact .inr ⟨n,x,d,h1,by rw[hk n (by rw[a];simp)];exact a,b,c⟩
def oK:SF:=⟨ai [af [cJ 3 1,b7 4 1],ai [af [ay 5 0 3,au 6 5,aF 7 .lss 6 0],bf 7 (ai [af [aa 8 0,eW 9 8,ay 10 0 9,ay 11 3 10,au 12 11,((some 13),.op (.arith .sub (.val (.val (.int .i64 (-1)))) (.tmp 12))),((some 14),.op (.bS 1 1 [(.val (.int .i64 0))] [(0,(.tmp 13))])),ay 15 1 3,au 16 15,((some 17),.op (.slice 1 (.tmp 14) (some (.tmp 16)) none)),aa 4 17],.ret])],af [aa 18 0,eW 19 18,ay 20 0 19,ay 21 2 20,au 22 21,ay 23 0 3,au 24 23,aY 25 3 22 24,ay 26 1 25,au 27 26,ay 28 1 3,au 29 28,((some 30),.op (.slice 1 (.tmp 27) (some (.tmp 29)) none)),aa 4 30],.ret],
 [.tmp 4],31⟩
theorem sA:aG Tryz.prog 127 [3]=some oK:=by kernel_rfl
def oG:SF:=⟨ai [af [cJ 3 1],ai [.uP (212,7,9) [] [⟨none,[aa 4 0,eW 5 4,ay 6 5 5,au 7 6,ay 8 0 3,bj 9 3 8,((some 10),.op (.old (.lookup 212 (.tmp 7) (.tmp 9) false) 3)),aF 11 .add 10 1,((some 12),.op (.old (.mapEntry 212 (.tmp 7) (.tmp 9)) 0)),dO 13 1 12,(none,.op (.old (.entryStore 212 (.tmp 7) (.tmp 13) (.tmp 11)) 0))]⟩],af [aa 14 0,eW 15 14,ay 16 5 15,au 17 16,ay 18 0 3,bj 19 3 18,((some 20),.op (.old (.lookup 212 (.tmp 17) (.tmp 19) false) 3)),aF 21 .gtr 20 1],bf 21 (.ret)],ai [af [aa 22 0,eW 23 22,ay 24 7 23,au 25 24,ay 26 0 3,ay 27 0 26,au 28 27,aY 29 1 25 28,au 30 29,aF 31 .lss 30 0],bf 31 (af [aa 32 0,eW 33 32,ay 34 7 33,au 35 34,ay 36 0 3,ay 37 0 36,au 38 37,aa 39 0,eW 40 39,ay 41 6 40,au 42 41,aQ 43 42,aY 44 1 35 38,df 1 44 43])],af [aa 45 0,aa 46 0,eW 47 46,ay 48 6 47,au 49 48,bj 50 5 3,((some 51),.op (.bS 1 5 [(.val (.int .i64 0)),(.val (.int .i64 0)),(.val (.int .i64 0)),(.emp 1),(.emp 1)] [(0,(.tmp 50))])),iR 52 5 72 49 51,eW 53 45,ay 54 6 53,df 1 54 52]],
 [],55⟩
theorem sB:aG Tryz.prog 125 [3,100000]=some oG:=by kernel_rfl
theorem KB (g:ag) (o:ba (-1 - g.start)) (a:List aR) (q:Nat) (us p:V) (b:Nat) (H:View) (j:H b=.arr 8 [pU g a q us p]) (x:aK) (s:c7 g x) :
  ao Tryz.prog 127 [.ptr b 0 0,.agg (fi x)] H λr H'=>ta H' r (fh g x)/\cM H H' r:=by
 obtain⟨⟨v,w⟩,y,c⟩:=s
 unfold ba at o
 refine ao.of mixed sA ?_
 simp(disch:=omega)only[↓wr,seval,wq,oK,fi]
 obtain⟨d,f⟩:∃ d:Nat,x.dot=d:=⟨x.dot.toNat,by omega⟩
 unfold fh
 unfold bW at c ⊢
 rw[f] at c ⊢
 rw[W8]
 apply aj.dec<;>intro h1
 .rw[Wv (by omega)] at c ⊢
  simp at c
  simp(disch:=omega)only[↓wr,seval,wq,fi,j,f]
  intro n t
  simp(disch:=omega)only[↓wr,seval,wq,fi,f,ze (sz:=1) (id:=n) (off:=0) (k:=1) (m:=d) (by omega)]
  refine⟨.inr ⟨n,-1 - g.start,d,?_,by simp[View.set],by omega,rfl⟩,λid h=>?_⟩
  .simp
  .have e:¬ id=n:=by rintro rfl;exact h t
   exact⟨by simp[View.set,e],by simp[owner,Ne.symm e]⟩
 .rw[Ws (by omega)] at c ⊢
  have u:g.rules[x.av.toNat]?=some (bT g x.av):=by unfold bT;exact getD_some (by omega)
  have i:=vw (l:=(bT g x.av).right) (k:=d) (by omega)
  simp(disch:=omega)only[↓wr,seval,wq,fi,j,f,aU,encI,Ww,u,WL,i]
  exact⟨.inl rfl,λ_ _=>⟨rfl,by simp[owner]⟩⟩
def FN (m:bQ vK) (l:List bB) (B:Nat):Prop:=∀ k:vK,∃ n:Nat,(getM m k).getD (gi 0)=gi n/\n<=B/\(n=0↔∀ x∈l,iL x≠k)
def eF (a:List aR) (l:List bB):List Int:=(List.range a.length).map λ(i:Nat)=>gj l i 0
structure VN (H:View) (b:Nat) (g:ag) (a:List aR) (l:List bB) (B:Nat) (q:Nat) (us uf:V) (S:List r7) (m:bQ vK) (c:Nat) (K:List ed):Prop where
 own:bu H ((us,5,S.map iY) :: (uf,1,aM (eF a l)) :: (.sl b 0 1 8,8,[pU g a q us uf]) :: K)
 map:H q=.map (bZ sw m) c
 born:j5 m c
 seen:FN m l B
 is:S.map r7.n=l
 ok:∀ y∈S,y.Ok
def eT (H:View) (b:Nat) (g:ag) (a:List aR) (l:List bB) (B:Nat) (K:List ed):Prop:=∃ q us uf S m c,VN H b g a l B q us uf S m c K
theorem vY (i:Int):∀ (l:List bB) (n:Nat),gj l i n < 0->gj l i n = -1
 | [],_,_=>rfl
 | x :: l,n,h=>by
  rw[gj] at h ⊢
  split
  .rename_i e;rw[Wv e] at h;omega
  .rename_i e;rw[Ws e] at h;exact vY i l (n+1) h
theorem Ft (i:Int):∀ (l:List bB) (n:Nat),gj l i n < (n+l.length:Nat)
 | [],n=>by rw[gj];omega
 | x :: l,n=>by
  rw[gj]
  split
  .simp only[WD];omega
  .have:=Ft i l (n+1)
   simp only[WD];omega
theorem Gp {l:List bB} {x:bB} : l.any (rf x)=true↔∃ y∈l,iL y=iL x:=by
 rw[XZ]
 refine⟨λ⟨y,a,h⟩=>⟨y,a,?_⟩,λ⟨y,a,h⟩=>⟨y,a,?_⟩⟩
 .rw[<-EK,Xw] at h;exact h.symm
 .rw[<-EK,Xw];exact h.symm
theorem FN.put {m:bQ vK} {l:List bB} {B c c0:Nat} (h:FN m l B) (x:bB) {n:Nat} (g:(getM m (iL x)).getD (gi 0)=gi n) (v:V):FN (bz (iL x) (gi (n+1:Nat)) c0 (bz (iL x) v c m)) (kG l x) (B+1):=by
 intro k
 obtain⟨j,h1,p,i⟩:=h k
 rw[kh]
 have hm:∀ z,z∈kG l x↔z∈l∨(z=x/\l.any (rf x)=false):=λz=>by
  unfold kG
  split
  .rename_i e;rw[e];simp
  .rename_i e;simp only[Bool.not_eq_true] at e;rw[e];simp
 by_cases e:k=iL x
 .subst e
  refine⟨n+1,by simp,?_,⟨λe=>by omega,λe=>?_⟩⟩
  .rw[g] at h1
   simp at h1
   omega
  .exfalso
   by_cases d:l.any (rf x)=true
   .obtain⟨y,o,hk⟩:=Gp.1 d
    exact e y ((hm y).2 (.inl o)) hk
   .exact e x ((hm x).2 (.inr ⟨rfl,by simpa using d⟩)) rfl
 .have f:(k == iL x)=false:=by simpa using e
  refine⟨j,?_,by omega,i.trans ⟨λb z a=>?_,λb z a=>b z ((hm z).2 (.inl a))⟩⟩
  .rw[f]
   simp only[WR,if_false]
   rw[kh,f]
   simpa using h1
  .rcases (hm z).1 a with a | ⟨rfl,_⟩
   .exact b z a
   .exact Ne.symm e
theorem Lx {a:List aR} {l:List bB} {x:bB} : eF a (l ++ [x])=if gj l x.st 0 < 0 then (eF a l).set x.st l.length else eF a l:=by
 unfold eF
 apply List.ext_getElem?
 intro i
 rw[Ww]
 by_cases hi:i < a.length
 .rw[XU hi,WL,BH,Xk]
  split
  .rename_i b
   by_cases e:x.st=i
   .subst e
    rw[Wv rfl,Wv b,Yh (by simpa using hi)]
   .rw[Ws (by omega)]
    split
    .rw[List.getElem?_set_ne e,Ww,XU hi,WL,vY _ _ _ b]
    .rw[Ww,XU hi,WL,vY _ _ _ b]
  .rename_i c
   split
   .rename_i d
    have e:x.st≠i:=by rintro rfl;exact c d
    rw[List.getElem?_set_ne e,Ww,XU hi,WL]
   .rw[Ww,XU hi,WL]
 .rw[Xa (by simpa using hi)]
  split
  .rw[Xa (by simpa using hi)];rfl
  .rw[Xa (by simpa using hi)];rfl
theorem N0 {H:View} {L:List ed} (h:bu H L) {q c:Nat} {es:List (V × V × Nat)} (a:H q=.map es c) {n k sz:Nat} {xs:List (List V)} (hm:(.sl n 0 k sz,sz,xs)∈L):n≠q:=by
 rintro rfl
 exact h.FR a _ hm rfl
theorem Dv (g:ag) (a:List aR) (b:Nat) (l:List bB) (B:Nat) (hB:B < 1000000000000) (hl:l.length<=90000) (x:r7) (hx:x.Ok) (ab:x.n.st < a.length) (K:List ed) (H:View) (hW:eT H b g a l B K) :
  ao Tryz.prog 125 [.ptr b 0 0,.agg (iY x)] H λ_ H'=>eT H' b g a (kG l x.n) (B+1) K:=by
 obtain⟨q,us,uf,S,m,c,w⟩:=hW
 have D:dR Tryz.prog 212=some (218,3):=by kernel_rfl
 have hz:zeroV Tryz.prog 3=some (gi 0):=by kernel_rfl
 have j:=Qx
 have O:=T9 hx
 obtain⟨⟨P,ae,_⟩,⟨Q,al,_⟩⟩:=And.intro hx.a.fF hx.b.fF
 simp only[iY] at O
 obtain⟨n,d,bl,ar⟩:=w.seen (iL x.n)
 have hb:=w.own.is 2 rfl (by simp)
 have R:=w.map
 have T:¬ b=q:=λe=>by rw[e,R] at hb;simp at hb
 refine ao.of mixed sB ?_
 simp(disch:=omega)only[↓wr,seval,wq,oG,iY,P,ae,Q,al,hb]
 refine FU (kv:=sw) (kt:=218) (et:=3) (z:=gi 0) D hz j (id:=q) (c:=c) (m:=m) (k:=iL x.n) (by first | rfl | simp(disch:=omega)only[↓wr,seval,wq]) (by first | rfl | (simp(disch:=omega)only[↓wr,seval,wq];rfl)) R ?_
 rw[d]
 simp(disch:=omega)only[↓wr,seval,wq]
 refine PO (kv:=sw) (kt:=218) (et:=3) (z:=gi 0) D hz j (id:=q) (c:=c) (m:=m) (k:=iL x.n) (by first | rfl | simp(disch:=omega)only[↓wr,seval,wq]) (by first | rfl | (simp(disch:=omega)only[↓wr,seval,wq];rfl)) R w.born λb1 p J L=>?_
 rw[d] at J L ⊢
 simp(disch:=omega)only[↓wr,seval,wq]
 have ek:V.val (.int .i64 ((n:Int)+1))=gi (n+1:Nat):=by simp
 refine NU (kv:=sw) (id:=q) (c:=p) (b:=b1) (m:=bz (iL x.n) (gi n) c m) (k:=iL x.n) (v:=gi (n+1:Nat)) (by first | rfl | simp(disch:=omega)only[↓wr,seval,wq]) (by first | rfl | simp(disch:=omega)only[↓wr,seval,wq]) (by first | exact ek | (simp(disch:=omega)only[↓wr,seval,wq];exact ek)) (by simp[View.set]) J L λc0=>?_
 simp(disch:=omega)only[↓wr,seval,wq]
 refine⟨Us (kv:=sw) (k:=iL x.n) D hz j R w.born,?_⟩
 rw[set_set]
 have r:=w.seen.put (c:=c) (c0:=c0) x.n d (gi n)
 have M:=J.Rp L (gi (n+1:Nat)) c0
 have G:getM (bz (iL x.n) (gi (n+1:Nat)) c0 (bz (iL x.n) (gi n) c m)) (iL x.n)=some (gi (n+1:Nat)):=by rw[kh];simp
 generalize bz (iL x.n) (gi (n+1:Nat)) c0 (bz (iL x.n) (gi n) c m)=m2 at r M G ⊢
 have s:=w.own.B4 R (o:=.map (bZ sw m2) p)
 have i:(H.set q (.map (bZ sw m2) p)) q=.map (bZ sw m2) p:=by simp[View.set]
 generalize View.set H q (.map (bZ sw m2) p)=H2 at s i ⊢
 have E:=s.is 2 rfl (by simp)
 simp only[Ws T,hb]
 simp(disch:=omega)only[↓wr,seval,wq,E]
 refine FU (kv:=sw) (kt:=218) (et:=3) (z:=gi 0) D hz j (id:=q) (c:=p) (m:=m2) (k:=iL x.n) (by first | rfl | simp(disch:=omega)only[↓wr,seval,wq]) (by first | rfl | (simp(disch:=omega)only[↓wr,seval,wq];rfl)) i ?_
 rw[G,WJ]
 simp(disch:=omega)only[↓wr,seval,wq]
 have I:l.any (rf x.n)=true↔¬ n=0:=by
  rw[Gp,ar]
  constructor
  .rintro⟨y,C,e⟩ h;exact h y C e
  .intro h
   refine Yp λU=>h λy C e=>U ⟨y,C,e⟩
 apply aj.dec<;>intro h1
 .simp(disch:=omega)only[↓wr,seval,wq]
  have t:kG l x.n=l:=Wv (I.2 (by omega))
  rw[t] at r ⊢
  exact⟨q,us,uf,S,m2,p,s,i,M,r,w.is,w.ok⟩
 have t:kG l x.n=l ++ [x.n]:=Ws (λe=>by have:=I.1 e;omega)
 rw[t] at r ⊢
 have hlen:S.length=l.length:=by rw[<-w.is,WG]
 have u:(eF a l).length=a.length:=by simp[eF]
 obtain⟨N,W,hF⟩:=(s.own 1 rfl).sl (by simp[u];omega)
 rw[WG,u] at W
 subst W
 have X:(aM (eF a l)).getD x.n.st []=[gi (gj l x.n.st 0)]:=by
  rw[aM,Wo,Ww,eF,Ww,XU ab];rfl
 have bn:=Ft x.n.st l 0
 have f:=Lx (a:=a) (l:=l) (x:=x.n)
 simp(disch:=omega)only[↓wr,seval,wq,E,hF,X,iY]
 refine⟨by omega,by simp[u];omega,?_⟩
 have a1:cT us=some S.length:=by rw[(s.own 0 rfl).len,WG]
 apply aj.dec<;>intro U
 focus
  rw[Wv U] at f
  simp(disch:=omega)only[↓wr,seval,wq,E,hF,X,iY,a1]
  refine⟨by omega,by simp[u];omega,?_⟩
  have Y:¬ b=N:=s.Vj 2 1 rfl rfl (by decide)
  have F:=((s.at 1 (by simp)).put (es':=aM ((eF a l).set x.n.st l.length)) (by simp) (by simp[u]))
  rw[<-f] at F
  have A:(H2.set N (.arr 1 (aM (eF a (l ++ [x.n]))))) q=.map (bZ sw m2) p:=by
   have:=N0 s i (W9 _ (XE ..))
   simp[View.set,Ne.symm this,i]
  rw[hlen,show (aM (eF a l)).set x.n.st [gi (l.length:Int)]=aM (eF a (l ++ [x.n])) by rw[f];exact Yr.symm]
  simp only[List.getElem_cons_succ,List.getElem_cons_zero,XO,XP] at F
  generalize View.set H2 N (.arr 1 (aM (eF a (l ++ [x.n]))))=H3 at F A ⊢
  replace F:=F.perm (.swap _ _ _)
  simp only[Ws Y,E]
 rotate_left
 focus
  rw[Ws U] at f
  simp(disch:=omega)only[↓wr,seval,wq]
  rw[<-f] at s
  have F:=s
  have A:=i
  clear s i
  generalize H2=H3 at F A ⊢
 all_goals (
  have Z:=F.is 2 rfl (by simp)
  simp(disch:=omega)only[↓wr,seval,wq,Z,iY,P,Q]
  intro n1 d
  have br:¬ b=n1:=by rintro rfl;rw[Z] at d;simp at d
  have a6:¬ q=n1:=by rintro rfl;rw[A] at d;simp at d
  have o4:=F.fresh (o:=.arr 5 [[gi x.n.st,gi x.n.it.av,gi x.n.it.dot,x.a,x.b]]) d
  simp(disch:=omega)only[↓wr,seval,wq,bY]
  refine gE o4 O (by unfold aD;simp;omega) (by unfold aD;simp;omega) ?_
  intro u5 H5 o5 l5
  have a7:=o5.is 2 rfl (by simp)
  have a8:H5 q=.map (bZ sw m2) p:=l5.map (o4.own 0 rfl) (by simp[View.set,a6,A])
  have cu:=(o5.own 0 rfl).cells
  have ku:=(o5.own 0 rfl).fF
  simp(disch:=omega)only[↓wr,seval,wq,a7,cu,ku]
  have o6:=((o5.at 2 (by simp)).put (es':=[pU g a q u5 (.sl N 0 a.length 1)]) rfl rfl)
  have bd:(H5.set b (.arr 8 [pU g a q u5 (.sl N 0 a.length 1)])) q=.map (bZ sw m2) p:=by
   simp[View.set,Ne.symm T,a8]
  simp only[List.getElem_cons_succ,List.getElem_cons_zero,XO,XP] at o6
  refine⟨q,u5,.sl N 0 a.length 1,S ++ [x],m2,p,?_,bd,M,r,by rw[W6,w.is];rfl,λy C=>?_⟩
  .rw[W6]
   exact o6.perm (List.Perm.trans (.swap _ _ _) (.cons _ (.swap _ _ _)))
  .rcases WN.1 C with C | C
   .exact w.ok y C
   .simp at C;subst C;exact hx)
end Gv
