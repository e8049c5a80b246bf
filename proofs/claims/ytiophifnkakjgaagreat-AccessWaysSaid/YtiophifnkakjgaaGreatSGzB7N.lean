/-
  Part 14 of the proof: what the machine does and what the functions answer.
  Conditions: those that each lemma names.
-/
import Derived.Test.YtiophifnkakjgaaGreatSGzB7M
set_option linter.unusedSimpArgs false
set_option linter.unusedVariables false
set_option maxRecDepth 100000
set_option maxHeartbeats 20000000
namespace Gv
open Go Go.Proofs
def wz:SF:=⟨ae [ab [cG 2 0,bQ 4 1],ae [ab [aa 5 1,aF 6 .eql 5 (-1)],bf 6 (ae [ab [al 7 3 2,ak 8 7,((some 9),.op (.arith .sub (.val (.val (.int .i64 (-1)))) (.tmp 8))),((some 10),.op (.bN 1 1 [(.val (.int .i64 0))] [(0,(.tmp 9))])),aa 4 10],.ret])],ab [al 11 2 2,ak 12 11,aa 13 1,aZ 14 3 12 13,al 15 1 14,ak 16 15,aa 4 16],.ret],
 [.tmp 4],17⟩
theorem zF:aI Tryz.prog 244 [2]=some wz:=by kernel_rfl
def yC:SF:=⟨ae [ab [cG 2 0,cG 3 1,aR 4 0,bm 5 false],ae [ab [ba 7 4 2,al 8 0 3,ak 9 8,bg 10 244 [7,9],aa 6 10],ab [al 11 1 3,ak 12 11,aa 13 6,aP 14 13,aU 15 .lss 12 14],bf 15 (ae [ab [aa 16 6,al 17 1 3,ak 18 17,aZ 19 1 16 18,ak 20 19,aa 4 20,bm 5 true],.ret])],ab [aR 4 0,bm 5 false],.ret],
 [.tmp 4,.tmp 5],21⟩
theorem BO:aI Tryz.prog 187 [2,3]=some yC:=by kernel_rfl
def yw:SF:=⟨ae [ab [cG 2 0,aR 4 0],ae [ab [aa 5 1,aF 6 .lss 5 0],bf 6 (ae [ab [al 7 0 2,ak 8 7,aP 9 8,aF 10 .sub 9 1,aa 11 1,aU 12 .sub 10 11,aa 4 12],.ret])],ab [aa 13 1,aa 4 13],.ret],
 [.tmp 4],14⟩
theorem Bj:aI Tryz.prog 188 [2]=some yw:=by kernel_rfl
def cJ:SF:=⟨ae [ab [bQ 2 1],ae [ab [aa 3 0,((some 4),.op (.nil true 0 (.tmp 3) (.val (.emp 1))))],bf 4 (ae [ab [bQ 2 1],.ret])],ab [bQ 5 2,aa 6 0,gD 7 2 16 5 6,aa 2 7],.ret],
 [.tmp 2],8⟩
theorem dd:aI Tryz.prog 189 []=some cJ:=by kernel_rfl
def rn:SC :=
 ae [ab [aU 54 .lss 53 52],cb 54 (.exit 2),.block 3 (ae [ab [aa 55 53,aZ 56 3 51 53,ba 57 3 56,((some 11),.op (.alloc [(.val (.int .i64 0)),(.emp 1),(.val (.int .i64 0))])),aa 10 55,cL 3 11 57],ab [al 58 0 11,ak 59 58,aa 60 8,((some 61),.op (.arith .sub (.val (.val (.int .i64 (-1)))) (.tmp 60))),aU 62 .eql 59 61],bf 62 (ab [aa 63 5,aa 64 10,((some 65),.op (.build [(.val (.int .i64 0)),(.val (.int .i64 0))] [(0,1,(.tmp 64))])),((some 66),.op (.bN 1 2 [(.val (.int .i64 0)),(.val (.int .i64 0))] [(0,(.tmp 65))])),gD 67 2 16 63 66,aa 5 67])]),ab [aF 68 .add 53 1,aa 53 68]]
def q9:SC :=
 ae [ae [ab [aa 18 7,aa 19 5,aP 20 19,aU 21 .lss 18 20],cb 21 (.exit 0)],.block 1 (ae [ab [ba 25 4 2,aa 26 5,aa 27 7,aZ 28 2 26 27,ba 29 2 28,bg 30 187 [25,29],aa 24 30,dz 31 0 24,dz 32 1 24,aa 8 31,aa 9 32],ae [.region false [⟨none,[aa 33 9,dp 34 33,aa 35 34]⟩,⟨(some (35,false)),[aa 36 8,aF 37 .geq 36 0]⟩,⟨none,[cR 38 35 37,aa 39 38]⟩,⟨(some (39,false)),[aa 40 6,aa 41 8,((some 42),.op (.arith .sub (.val (.val (.int .i64 (-1)))) (.tmp 41))),aZ 43 1 40 42,ak 44 43]⟩,⟨none,[cR 45 39 44]⟩],bf 45 (.exit 1)],ab [aa 46 6,aa 47 8,((some 48),.op (.arith .sub (.val (.val (.int .i64 (-1)))) (.tmp 47))),aZ 49 1 46 48,(none,.op (.store 1 (.tmp 49) (.val (.val (.bool true)))))],ab [al 50 2 2,ak 51 50,aP 52 51,aR 53 0],cd 2 rn]),ab [aa 22 7,aF 23 .add 22 1,aa 7 23]]
def tG:SF:=⟨ae [ab [cG 2 0,bQ 4 1],ab [aa 12 1,bg 13 189 [12],aa 5 13],ab [al 14 1 2,ak 15 14,aP 16 15,((some 17),.op (.make 1 1 [(.val (.bool false))] (.tmp 16) (.tmp 16))),aa 6 17],ae [ab [aR 7 0],cd 0 q9],ab [aa 69 5,bg 70 124 [69],aa 4 70],.ret],
 [.tmp 4],71⟩
theorem yf:aI Tryz.prog 123 [2]=some tG:=by kernel_rfl
theorem L7 (g:af) (d : -100<=g.start/\g.start<=100) (r:Int) (hr : -1<=r/\r < (g.rules.length:Int)):ay Tryz.prog 244 [.agg (ag g),gi r] (encI (bB g r)):=by
 refine ay.of (by
  intro v a;simp at a
  rcases a with rfl | rfl
  .exact cn _ (cM g)
  .exact .val _) ?_
 refine au.of mixed zF ?_
 unfold bB
 simp(disch:=omega)only[↓wr,seval,wq,wz,ag,encS]
 apply ai.eq<;>intro h1
 .simp(disch:=omega)only[↓wr,seval,wq,ag,encS]
  intro n
  rw[St h1]
  rintro c a
  refine dH.fr (lY (l:=[-1 - g.start]) (.inr ⟨n,rfl,?_⟩))
  rw[a];simp[View.set]
 .have b:g.rules[r.toNat]?=some (bH g r):=by unfold bH;exact getD_some (by omega)
  rw[Sr h1]
  generalize bH g r=R at b
  simp(disch:=omega)only[↓wr,seval,wq,ag,encS,Ss,b,SD,aQ]
  intro c _
  exact .tree _ (bU R.right)
theorem Ea (g:af) (c:g.cZ) (x:aD) (b:b6 g x):ay Tryz.prog 187 [.agg (ag g),.agg (bq x)] (.aS [gi (bo g x).1,gb (bo g x).2]):=by
 have h1:=L7 g (iA c) x.aw b.1
 have d:=dy c b.1
 have e:=b.2
 refine ay.tree (by
  intro v a;simp at a
  rcases a with rfl | rfl
  .exact cn _ (cM g)
  .exact cn _ λv a=>by simp[bq] at a;rcases a with rfl | rfl <;> exact .val _) (.aS _ λi hi=>by
   match i,hi with
   | 0,_=>exact .val _
   | 1,_=>exact .val _) λH=>?_
 refine au.of mixed BO ?_
 simp only[ag,encS,encI] at h1
 unfold bo
 simp(disch:=omega)only[↓wr,seval,wq,yC,ag,encS,bq]
 refine av.pure h1 ?_
 generalize bB g x.aw=R at e d ⊢
 simp(disch:=omega)only[↓wr,seval,wq,bq]
 apply ai.dec<;>intro f
 .have h:R[x.dot.toNat]?=some (R.getD x.dot.toNat 0):=getD_some (by omega)
  simp(disch:=omega)only[↓wr,seval,wq,bq,Ss,h,SD]
  rw[Sr (by omega)]
 .simp(disch:=omega)only[↓wr,seval,wq]
  rw[St (by omega)]
theorem NW (g:af) (b:g.cZ) (s:Int) (c : -1000<=s/\s<=1000):ay Tryz.prog 188 [.agg (ag g),gi s] (gi (lI g s)):=by
 have d:=b.ao
 refine ay.val (by
  intro v a;simp at a
  rcases a with rfl | rfl
  .exact cn _ (cM g)
  .exact .val _) λH=>?_
 refine au.of mixed Bj ?_
 unfold lI
 simp(disch:=omega)only[↓wr,seval,wq,yw,ag,encS]
 apply ai.dec<;>intro h1
 .simp(disch:=omega)only[↓wr,seval,wq,ag]
  rw[St h1]
 .simp(disch:=omega)only[↓wr,seval,wq]
  rw[Sr h1]
theorem bE.RX {P:Program} {f:FuncId} {h:az} {u:V} (hu:∀ Z μ hp x,ax Z μ hp u x->∃ a cap,x=.slice a 0 cap/\(a=none->cap=0)) (h1:bE P f [.emp 1] h (.emp 1) h) (n:bE P f [.emp 2] h (.emp 2) h) (o:bE P f [.dK] h (.emp 2) h):bE P f [u] h (.emp 0) h:=by
 refine⟨Sy _,λZ μ F w xs j hr d=>?_⟩
 obtain⟨p,q⟩:=j
 obtain⟨x,rfl⟩:∃ x,xs=[x]:=by
  match xs,p with
  | [x],_=>exact⟨x,rfl⟩
 have r:ax Z μ w.heap u x:=q 0 (by simp)
 have one:∀ v,ax Z μ w.heap v x->fH Z μ w.heap [v] [x]:=λv h=>⟨rfl,λi hi=>by
  simp at hi;subst hi;exact h⟩
 have b:∀ k,bE P f [if k=3 then .dK else .emp k] h (if k=3 then .emp 2 else .emp k) h->ax Z μ w.heap (if k=3 then .dK else .emp k) x->Calls P f [x].toArray w λe w'=>∃ x g μ',e=.returned x/\ax g μ' w'.heap (.emp 0) x/\gN g μ' w'.heap (cat h F)/\Ext Z μ w h.length g μ' w'/\(∀ id,id < h.length∨h.length<=id->μ' id=μ id):=by
  intro k hk s
  refine(hk.2 Z μ F w [x] (one _ s) hr d).mono ?_
  rintro e w' ⟨y,g,μ',rfl,l,rest⟩
  refine⟨y,g,μ',rfl,?_,rest⟩
  have:∀ m,ax g μ' w'.heap (.emp m) y->ax g μ' w'.heap (.emp 0) y:=λm h=>by
   cases h with | emp _ a _ _=>exact .emp 0 a (by simp) (by simp)
  split at l <;> exact this _ l
 obtain⟨a,cap,rfl,t⟩:=hu Z μ w.heap x r
 cases a with
 | none =>
  have:=t rfl
  subst this
  exact b 1 (by simpa using h1) (.emp 1 none (by simp) (by simp))
 | some a =>
  cases cap with
  | zero=>exact b 2 (by simpa using n) (.emp 2 (some a) (by simp) (by simp))
  | succ c=>exact b 3 (by simpa using o) (.dK a (c+1))
theorem Mb {Z:Nat->Prop} {μ:Mu} {hp:Array Obj} {k:Nat} {x:Value} (h:ax Z μ hp (.emp k) x):∃ a cap,x=.slice a 0 cap/\(a=none->cap=0):=by
 cases h with | emp _ a _ _=>exact⟨a,0,rfl,λ_=>rfl⟩
theorem MO {Z:Nat->Prop} {μ:Mu} {hp:Array Obj} {id off esz:Nat} {x:Value} (h:ax Z μ hp (.sl id off 0 esz) x):∃ a cap,x=.slice a 0 cap/\(a=none->cap=0):=by
 rcases Ft h with ⟨_,a,e⟩ | ⟨b,o0,cap,c,e,f,d,_⟩
 .exact⟨a,0,e,λ_=>rfl⟩
 .exact⟨_,cap,d,λh=>by simp at h⟩
theorem GK (u:V) (hu:∀ Z μ hp x,ax Z μ hp u x->∃ a cap,x=.slice a 0 cap/\(a=none->cap=0)) (h:az):bE Tryz.prog 189 [u] h (.emp 0) h:=by
 have hp:∀ v t,Tree v->Tree t->(∀ H,au Tryz.prog 189 [v] H λr _=>r=t)->ay Tryz.prog 189 [v] t:=λv t c d h=>ay.tree (by intro x b;simp at b;subst b;exact c) d h
 have h1:=hp (.emp 1) (.emp 1) (.emp 1) (.emp 1) (λH=>by
  refine au.of mixed dd ?_
  simp(disch:=omega)only[↓wr,seval,wq,cJ])
 have e:=hp (.emp 2) (.emp 2) (.emp 2) (.emp 2) (λH=>by
  refine au.of mixed dd ?_
  simp(disch:=omega)only[↓wr,seval,wq,cJ,ix,Uk])
 have f:=hp .dK (.emp 2) .dK (.emp 2) (λH=>by
  refine au.of mixed dd ?_
  simp(disch:=omega)only[↓wr,seval,wq,cJ,pa,ix,Uk])
 exact bE.RX hu (bE.fO h1 h) (bE.fO e h) (bE.fO f h)
theorem Jy (l:List aD) (d:l.length<=100000) (u:V) (H:View) (b:aJ H u 2 (aM l)):au Tryz.prog 189 [u] H λr H'=>aJ H' r 2 (aM l)/\cw H H' r:=by
 cases l with
 | nil =>
  refine⟨by kernel_rfl,?_⟩
  rintro h rfl
  refine⟨.emp 0,h,GK u (λZ μ hp x c=>?_) h,.refl _,.nil,.emp⟩
  rcases b with ⟨_,k,rfl⟩ | ⟨n,rfl,_⟩
  .exact Mb c
  .exact MO c
 | cons x r =>
  obtain⟨id,hu,a⟩:=b.sl (by rw[bw];simp)
  subst hu
  refine au.of mixed dd ?_
  have he:=ni (H:=H) id 0 r.length 2 2 (aM (x :: r)) a (by rw[bw];simp)
  rw[TZ,SL (by rw[bw];simp)] at he
  simp only[SA] at d
  have hlen:(aM (x :: r)).length=r.length+1:=by rw[bw];rfl
  rw[hlen]
  simp(disch:=omega)only[↓wr,seval,wq,cJ,he]
  refine fE (es:=[]) (.inl ⟨rfl,2,rfl⟩) (by simp[aM,bq,T8,aE]) (by unfold aC;rw[hlen];simp;omega) (by unfold aC;rw[hlen];simp;omega) ?_
  intro i m e f
  simp(disch:=omega)only[↓wr,seval,wq]
  refine⟨by simpa using e,λj g=>?_⟩
  exact f j g (by simp[owner])
def dr (ks:List Nat):List aD:=ks.map λ(k:Nat)=>(⟨k,0⟩:aD)
theorem wV {a:List Nat} {n:Nat} (h:a.Nodup) (hk:∀ k∈a,k < n):a.length<=n:=by
 have:=pI a (List.range n) h λx b=>TL.2 (hk x b)
 simpa using this
theorem Lw {l:List Bool} {i:Nat} (h:i < l.length):(dh l).getD i []=[gb (l.getD i false)]:=by
 simp[Sm,h]
structure Lj (g:af) (l:List aD) (H H':View) (i:Nat) (r su:V) (ks:List Nat) (seen:List Bool):Prop where
 own:bc H' [(r,2,aM (l ++ dr ks)),(su,1,dh seen)]
 f1:cw H H' r
 f2:cw H H' su
 nd:ks.Nodup
 kl:∀ k∈ks,k < g.rules.length
 sl:seen.length=g.aj.length
 s1:∀ (n k:Nat) (R:bk),seen.getD n false=true->g.rules[k]?=some R->R.left=n->k∈ks
 s2:∀ (k:Nat) (R:bk),k∈ks->g.rules[k]?=some R->seen.getD R.left.toNat false=true
 cl:∀ x∈l ++ dr ks,lP g l x
 dn:∀ (j:Nat) (x:aD) (s:Int),j < i->(l ++ dr ks)[j]?=some x->bo g x=(s,true)->s < 0->seen.getD (-1 - s).toNat false=true
 il:i<=(l ++ dr ks).length
theorem Lj.len {g:af} {l:List aD} {H H':View} {i:Nat} {r b:V} {a:List Nat} {seen:List Bool} (h:Lj g l H H' i r b a seen):a.length<=g.rules.length/\(l ++ dr a).length=l.length+a.length:=by
 refine⟨wV h.nd h.kl,by simp[dr]⟩
def R9 (g:af) (l:List aD) (H:View) (m:Nat) (T:Env) (H':View):Prop:=∃ (i:Nat) (r su:V) (ks:List Nat) (seen:List Bool),m=l.length+g.rules.length - i/\Lj g l H H' i r su ks seen/\T 2=.aG (ag g) 0/\T 5=r/\T 6=su/\T 7=gi i
theorem Gp (g:af) (X:g.cZ) (l:List aD) (hl:∀ x∈l,b6 g x) (P:l.length<=10000) (u:V) (H:View) (ho:aJ H u 2 (aM l)):au Tryz.prog 123 [.agg (ag g),u] H λr H'=>aJ H' r 2 (aM (cE g l))/\cw H H' r:=by
 refine au.of mixed yf ?_
 have cu:=X.rules
 have cv:=X.aj
 simp(disch:=omega)only[↓wr,seval,wq,tG,ag,encS]
 refine av.dW ((Jy l (by omega) u H ho).mono ?_)
 rintro r H1 ⟨o1,f1⟩
 simp(disch:=omega)only[↓wr,seval,wq,ag,encS]
 refine⟨⟨Sy _,by unfold aC;omega,by unfold aC;omega⟩,λY=>?_,λY q z=>?_⟩
 .exact absurd (by have:=X.qn;omega) (show ¬ g.aj.length=0 by have:=X.qn;omega)
 have aq:Lj g l H (H1.set q (.arr 1 (List.replicate g.aj.length [gb false]))) 0 r (.sl q 0 g.aj.length 1) [] (List.replicate g.aj.length false):=by
  have e:List.replicate g.aj.length [gb false]=dh (List.replicate g.aj.length false):=by simp
  have b8:bc H1 [(r,2,aM l)]:=⟨λx C=>by simp at C;subst C;exact o1,by
   cases hr:owner r <;> simp[TG,hr]⟩
  have b9:H q=.dead∨H q≠.dead:=by cases H q <;> simp
  have E:H q=.dead:=by
   rcases b9 with h | h
   .exact h
   .have:=(f1 q h).1;rw[z] at this;exact absurd this.symm h
  refine⟨?_,λid c=>?_,λid c=>?_,.nil,by simp,by simp,λn k R h=>?_,by simp,λx C=>.base (by simpa [dr] using C),λj x s h=>by omega,TP _⟩
  .have N:=(b8.new z 1 (List.replicate g.aj.length [gb false])).perm (.swap _ _ _)
   rw[Um] at N
   rw[e] at N ⊢
   simpa [dr] using N
  .have Q:id≠q:=by rintro rfl;exact c E
   exact⟨by simp only[View.set];rw[Sr Q];exact(f1 id c).1,(f1 id c).2⟩
  .have Q:id≠q:=by rintro rfl;exact c E
   exact⟨by simp only[View.set];rw[Sr Q];exact(f1 id c).1,by simp[owner,Ne.symm Q]⟩
  .simp only[Sm,Uc] at h
   split at h <;> simp at h
 generalize H1.set q (.arr 1 (List.replicate g.aj.length [gb false]))=H2 at aq ⊢
 refine aY.intro (R9 g l H) (l.length+g.rules.length) ⟨0,r,_,[],_,by omega,aq,rfl,rfl,rfl,rfl⟩ ?_
 clear aq o1 f1 z
 rintro m T H' ⟨i,r,J,w,seen,rfl,d,t2,t5,t6,t7⟩
 obtain⟨cA,cC⟩:=d.len
 have cc:bZ r=some (l ++ dr w).length:=by rw[d.own.head.len,bw]
 simp(disch:=omega)only[↓wr,seval,wq,q9,t2,t5,t6,t7,cc]
 apply ai.dec<;>intro hc
 rotate_left
 ·
  have hi:i=(l ++ dr w).length:=by have:=d.il;omega
  simp(disch:=omega)only[↓wr,seval,wq,t5]
  refine av.dW ((HB (l ++ dr w) (by omega) r H' d.own.head).mono ?_)
  rintro S H3 ⟨k3,o3,e3⟩
  simp(disch:=omega)only[↓wr,seval,wq]
  have cf:cE g l=xV (l ++ dr w):=zd X hl (Ar _) (λx C=>d.cl x (pA.1 C)) (λx C=>pA.2 (by simp[C])) (λx C s k R h1 N O h4=>by
   obtain⟨j,hj,e⟩:=TX.1 (pA.1 C)
   have h5:=d.dn j x s (by omega) (by rw[Sn hj,e]) h1 N
   have h6:=d.s1 _ k R h5 O (by omega)
   exact pA.2 (List.mem_append_right _ (S5.2 ⟨k,h6,rfl⟩)))
  rw[cf]
  refine⟨o3,λid c=>?_⟩
  obtain⟨q1,q2⟩:=d.f1 id c
  exact⟨by rw[k3 id q2,q1],by rw[e3];exact q2⟩
 have C:(l ++ dr w)[i]?=some ((l ++ dr w)[i]'(by omega)):=Sn (by omega)
 have a8:=Sx (show i < (l ++ dr w).length by omega)
 have cN:=d.dn
 generalize (l ++ dr w)[i]'(by omega)=x at C a8
 have bd:=d.cl x a8
 have ar:=bd.has hl
 have h1:=Ea g X x ar
 cases F:bo g x with
 | mk s bl =>
 have cS:=uT X ar F
 rw[F] at h1
 obtain⟨id,hu,c⟩:=d.own.head.sl (by rw[bw];omega)
 simp only at hu c
 rw[bw] at hu
 simp only[ag,encS,bq] at h1
 simp(disch:=omega)only[↓wr,seval,wq,t2,t5,t6,t7,hu,c,pr C,ag,encS]
 refine⟨by omega,by rw[bw];omega,?_⟩
 refine av.pure h1 ?_
 have skip:(bl=true->s < 0->seen.getD (-1 - s).toNat false=true)->Lj g l H H' (i+1) r J w seen:=λh =>
  ⟨d.own,d.f1,d.f2,d.nd,d.kl,d.sl,d.s1,d.s2,d.cl,λj y t hj I P Y=>by
   rcases SY j i with q | q
   .exact d.dn j y t q I P Y
   .have:j=i:=by omega
    subst this
    rw[C] at I
    simp only[Sq] at I
    subst I
    rw[F] at P
    simp only[Su] at P
    obtain⟨rfl,rfl⟩:=P
    exact h rfl Y,by omega⟩
 cases bl with
 | false =>
  simp(disch:=omega)only[↓wr,seval,wq,t2,t5,t6,t7]
  exact⟨l.length+g.rules.length - (i+1),by omega,i+1,r,J,w,seen,rfl,skip (by simp),t2,by rw[<-hu];exact t5,t6,rfl⟩
 | true =>
 simp(disch:=omega)only[↓wr,seval,wq]
 apply ai.dec<;>intro Y
 .simp(disch:=omega)only[↓wr,seval,wq,t2,t5,t6,t7]
  exact⟨l.length+g.rules.length - (i+1),by omega,i+1,r,J,w,seen,rfl,skip (λ_ h=>by omega),t2,by rw[<-hu];exact t5,t6,rfl⟩
 have hG:=rf X ar F
 have bn:(-1 - s).toNat < g.aj.length:=by
  unfold eo at hG
  rw[Sr (by omega)] at hG
  simp at hG;omega
 obtain⟨K,A,L⟩:=d.own.tail.head.sl (by simp[d.sl];omega)
 simp only at A L
 rw[Sv,d.sl] at A
 have U:(-1 - s).toNat < seen.length:=by rw[d.sl];exact bn
 simp(disch:=omega)only[↓wr,seval,wq,t6,A,L,Lw U]
 refine⟨by omega,by simp[d.sl];omega,?_⟩
 apply ai.split<;>intro N
 .simp(disch:=omega)only[↓wr,seval,wq,t2,t5,t6,t7]
  exact⟨l.length+g.rules.length - (i+1),by omega,i+1,r,J,w,seen,rfl,skip (λ_ _=>N),t2,by rw[<-hu];exact t5,by rw[<-A];exact t6,rfl⟩
 obtain⟨n,P⟩:∃ n:Nat,-1 - s=(n:Int):=⟨(-1 - s).toNat,by omega⟩
 have br:(-1 - s).toNat=n:=by omega
 rw[br] at bn U N
 have ch:(dh seen).set n [gb true]=dh (seen.set n true):=by simp[List.map_set]
 simp(disch:=omega)only[↓wr,seval,wq,t2,t5,t6,t7,A,L,ag,encS,P,Lw U,ch]
 refine⟨by omega,by simp[d.sl];omega,?_⟩
 have a1:∀ m,(seen.set n true).getD m false=if n=m then true else seen.getD m false:=λm=>by
  rw[CU]
  by_cases e:n=m
  .rw[St ⟨e,U⟩,St e]
  .rw[Sr (λh=>e h.1),Sr e]
 have o2:bc (H'.set K (.arr 1 (dh (seen.set n true)))) [(r,2,aM (l ++ dr w)),(J,1,dh (seen.set n true))]:=by
  have O:=d.own.perm (.swap _ _ _)
  rw[A] at O ⊢
  exact(O.put (es':=dh (seen.set n true)) (by simp) (by simp[d.sl])).perm (.swap _ _ _)
 have M:∀ id,H id≠.dead->id≠K:=λid c e=>by
  have:=(d.f2 id c).2
  rw[A,e] at this
  exact this rfl
 have a6:cw H (H'.set K (.arr 1 (dh (seen.set n true)))) r:=λid c=>⟨by simp only[View.set];rw[Sr (M id c)];exact(d.f1 id c).1,(d.f1 id c).2⟩
 have a7:cw H (H'.set K (.arr 1 (dh (seen.set n true)))) J:=λid c=>⟨by simp only[View.set];rw[Sr (M id c)];exact(d.f2 id c).1,(d.f2 id c).2⟩
 generalize H'.set K (.arr 1 (dh (seen.set n true)))=H4 at o2 a6 a7 ⊢
 refine aY.up g.rules.length (λk T Z=>∃ (S:V) (f:List Nat),f=w ++ (List.range k).filter (λ(q:Nat)=>decide ((bH g q).left=n))/\bc Z [(S,2,aM (l ++ dr f)),(J,1,dh (seen.set n true))]/\cw H Z S/\cw H Z J /\
  T 2=.aG (ag g) 0/\T 5=S/\T 6=J/\T 7=gi i/\T 8=gi s/\T 51=.aT (g.rules.map aQ)/\T 52=gi g.rules.length/\T 53=gi k) ⟨r,w,by simp,o2,a6,a7,t2,by rw[<-hu];exact t5,by rw[<-A];exact t6,t7,rfl,rfl,rfl,rfl⟩ ?_
 clear t2 t5 t6 t7 o2 a6 a7
 rintro k j T5 Z hk ⟨S,f,G,o5,f5,g5,t2,t5,t6,t7,t8,t51,t52,t53⟩
 have bs:∀ q,q∈w->¬ (bH g q).left=n:=λq z e=>by
  have hR:g.rules[q]?=some (bH g q):=by unfold bH;exact getD_some (d.kl q z)
  have:=d.s2 q _ z hR
  rw[e] at this
  simp only[Tf] at this
  rw[N] at this;simp at this
 have an:f.Nodup:=by
  rw[G,TT]
  refine⟨d.nd,(List.nodup_range).filter _,λa ha b hb e=>?_⟩
  subst e
  exact bs a ha (by simpa using (TD.1 hb).2)
 simp(disch:=omega)only[↓wr,seval,wq,rn,t2,t5,t6,t7,t8,t51,t52,t53]
 apply ai.dec<;>intro cj
 .have hR:g.rules[k]?=some (bH g k):=by unfold bH;exact getD_some (by omega)
  have bx:∀ q∈f,q < g.rules.length:=λq z=>by
   rw[G] at z
   rcases SS.1 z with h | h
   .exact d.kl q h
   .have:=TL.1 (TD.1 h).1;omega
  have cV:=wV an bx
  have p:w ++ (List.range (k+1)).filter (λ(q:Nat)=>decide ((bH g q).left=n))=if (bH g k).left=n then f ++ [k] else f:=by
   rw[Uq,Uo,<-TB,<-G]
   by_cases e:(bH g k).left=n <;> simp[e]
  generalize bH g k=R at hR p
  simp(disch:=omega)only[↓wr,seval,wq,t2,t5,t6,t7,t8,t51,t52,t53,Ss,hR,SD,aQ]
  intro q z
  rw[set_set]
  have b0:(Z.set q (.arr 3 [[gi R.left,encI R.right,gi R.prec]])) q=.arr 3 [[gi R.left,encI R.right,gi R.prec]]:=by simp[View.set]
  have E:∀ id,H id≠.dead->id≠q:=λid c e=>by
   have:=(f5 id c).1
   rw[e,z] at this
   exact c (by rw[e];exact this.symm)
  have o6:=o5.fresh (o:=.arr 3 [[gi R.left,encI R.right,gi R.prec]]) z
  have f6:cw H (Z.set q (.arr 3 [[gi R.left,encI R.right,gi R.prec]])) S:=λid c=>⟨by simp only[View.set];rw[Sr (E id c)];exact(f5 id c).1,(f5 id c).2⟩
  have g6:cw H (Z.set q (.arr 3 [[gi R.left,encI R.right,gi R.prec]])) J:=λid c=>⟨by simp only[View.set];rw[Sr (E id c)];exact(g5 id c).1,(g5 id c).2⟩
  generalize Z.set q (.arr 3 [[gi R.left,encI R.right,gi R.prec]])=H6 at b0 o6 f6 g6
  clear o5 f5 g5 z E
  simp(disch:=omega)only[↓wr,seval,wq,t2,t5,t6,t7,t8,b0,P]
  refine⟨rfl,?_⟩
  apply ai.eq<;>intro he
  .simp(disch:=omega)only[↓wr,seval,wq,t2,t5,t6,t7,t8]
   intro q2 b1
   simp(disch:=omega)only[↓wr,seval,wq,bO]
   have D:∀ id,H id≠.dead->id≠q2:=λid c e=>by
    have:=(f6 id c).1
    rw[e,b1] at this
    exact c (by rw[e];exact this.symm)
   refine c8 (o6.fresh b1) (by simp[aE]) (by unfold aC;rw[bw];simp[dr];omega) (by unfold aC;rw[bw];simp[dr];omega) ?_
   intro r3 H7 o7 l7
   simp(disch:=omega)only[↓wr,seval,wq,t2,t6,t7,t8,t51,t52,t53]
   rw[St he] at p
   have f7:∀ v,cw H H6 v->(∀ id,owner v=some id->owner S≠some id/\owner r3≠some id)->cw H H7 v:=λv hv c3 id c=>by
    obtain⟨e1,e2⟩:=hv id c
    obtain⟨k1,k2⟩:=l7 id (by simp only[View.set];rw[Sr (D id c),e1];exact c) (f6 id c).2
    refine⟨?_,e2⟩
    rw[k1]
    simp only[View.set]
    rw[Sr (D id c),e1]
   have f8:cw H H7 r3:=λid c=>by
    obtain⟨e1,e2⟩:=f6 id c
    obtain⟨k1,k2⟩:=l7 id (by simp only[View.set];rw[Sr (D id c),e1];exact c) e2
    refine⟨?_,k2⟩
    rw[k1]
    simp only[View.set]
    rw[Sr (D id c),e1]
   refine aH hk (by omega) ⟨r3,f ++ [k],p.symm,?_,f8,λid c=>⟨(f8 id c).1,(g6 id c).2⟩,t2,rfl,t6,t7,t8,t51,t52,rfl⟩
   have e1:aM (l ++ dr (f ++ [k]))=aM (l ++ dr f) ++ [[gi k,gi 0]]:=by simp[aM,dr,bq]
   rw[e1]
   exact o7
  .simp(disch:=omega)only[↓wr,seval,wq,t2,t5,t6,t7,t8,t51,t52,t53]
   rw[Sr he] at p
   exact aH hk (by omega) ⟨S,f,p.symm,o6,f6,g6,t2,t5,t6,t7,t8,t51,t52,rfl⟩
 .have ck:k=g.rules.length:=by omega
  subst ck
  simp(disch:=omega)only[↓wr,seval,wq,t2,t5,t6,t7]
  have B:∀ q,q∈f↔q∈w∨(q < g.rules.length/\(bH g q).left=n):=λq=>by
   rw[G,SS,TD,TL,SN]
  have b2:∀ (q:Nat) (R:bk),g.rules[q]?=some R->bH g q=R:=λq R h=>by
   unfold bH
   rw[Tf,Sm,h];rfl
  have b7:∀ (j:Nat),j<=i->(l ++ dr f)[j]?=(l ++ dr w)[j]?:=λj hj=>by
   rw[G,dr,S0,<-TB]
   exact S9 (by simp only[dr] at hc;omega)
  refine⟨l.length+g.rules.length - (i+1),by omega,i+1,S,J,f,seen.set n true,rfl,⟨o5,f5,g5,an,λq z=>?_,by rw[List.length_set];exact d.sl,λm q R O h4 h5=>?_,λq R O h4=>?_,λy I=>?_,λj y t hj I W Y=>?_,?_⟩,t2,t5,t6,rfl⟩
  .rcases (B q).1 z with h | h
   .exact d.kl q h
   .exact h.1
  .rw[a1] at O
   split at O
   .rename_i e
    subst e
    exact(B q).2 (.inr ⟨(SH.1 h4).1,by rw[b2 q R h4];exact h5⟩)
   .exact(B q).2 (.inl (d.s1 m q R O h4 h5))
  .rw[a1]
   rcases (B q).1 O with h | h
   .split
    .rfl
    .exact d.s2 q R h h4
   .rw[b2 q R h4] at h
    rw[h.2,Tf,St rfl]
  .rcases SS.1 I with h | h
   .exact d.cl y (List.mem_append_left _ h)
   .obtain⟨q,z,rfl⟩:=S5.1 h
    rcases (B q).1 z with h | h
    .exact d.cl _ (List.mem_append_right _ (S5.2 ⟨q,h,rfl⟩))
    .have hR:g.rules[q]?=some (bH g q):=by unfold bH;exact getD_some h.1
     exact .step bd F (by omega) hR (by rw[h.2,P])
  .rw[b7 j (by omega)] at I
   rw[a1]
   rcases SY j i with q | q
   .split
    .rfl
    .exact d.dn j y t q I W Y
   .have:j=i:=by omega
    subst this
    rw[C] at I
    simp only[Sq] at I
    subst I
    rw[F] at W
    simp only[Su,and_true] at W
    subst W
    rw[br,St rfl]
  .rw[G,dr,S0,<-TB,SV]
   simp only[dr] at hc
   omega
def gJ (l:List UInt8):Value:=.string ⟨l.toArray⟩
theorem FG {a b:List UInt8} : ((⟨a.toArray⟩:ByteArray) == ⟨b.toArray⟩)=(a == b):=by
 show (a.toArray == b.toArray)=_
 simp
theorem FZ {P:Program} {kt:TypeId} (h:P.underlying kt=some .string):zp P kt gJ where
 ty:=⟨_,h,λa b=>by simp only[Instr.sameNow,gJ,FG],λa e=>Av h trivial e 9999 _⟩
 bits:=λa b c=>by
  have:a=b:=by simpa using c
  subst this
  show ((⟨a.toArray⟩:ByteArray) == ⟨a.toArray⟩)=true
  rw[FG];simp
def oJ (l:List aD):List Int:=l.flatMap λx=>[x.aw+1,x.dot]
theorem OM (l:List aD):(oJ l).length=2 * l.length:=by
 induction l with
 | nil=>rfl
 | cons x l a=>simp only[oJ,List.flatMap_cons,SV,SA,SZ] at a ⊢;omega
theorem Ac:∀ l:List aD,jY ((oJ l).map λn=>[gy n])=some (fF l)
 | []=>rfl
 | x :: l=>by
  have a:=Ac l
  simp only[oJ,fF,List.flatMap_cons,Th,Ty,S7,jY] at a ⊢
  rw[a];rfl
theorem O4 {x:Int} (h1:0<=x) (c:x < 256):IntKind.wrap .u8 x=x:=by
 unfold IntKind.wrap
 have a:(2:Int) ^ IntKind.u8.bits=256:=by rfl
 have b:IntKind.u8.signed=false:=by rfl
 simp only[a,b,TV,SU,if_false]
 omega
theorem Qt {P:Program} {T:Env} {H:View} {K:V->View->Prop} {w:cx (T,H,K)} {t e d ty:TypeId} {x:Operand} {u:V} {xs:List (List V)} {rd:List Nat} {l:List UInt8} {k:Nat} (hu:P.underlying t=some (.slice e)) (he:P.underlying e=some (.int .u8)) (a:P.underlying d=some .string)
  (b:ev T x=u) (c:bA H u=some (xs,rd)) (f:bZ u=some k) (g:jY xs=some l) (hk:K (.val (gJ l)) H):iE P (.convert t d x) ty T H K w:=by
 intro n _
 have h:jW P t d=true:=by simp[jW,hu]
 refine⟨.val (gJ l),.none,rd,?_,hk⟩
 simp only[sI,bY,oper]
 rw[St h,b]
 simp[lT,hu,he,a,c,f,g,gJ]
def tv:SC :=
 ae [ab [aU 15 .lss 14 13],cb 15 (.exit 0),.block 1 (ae [ab [aZ 16 2 12 14,ba 17 2 16,((some 7),.op (.alloc [(.val (.int .i64 0)),(.val (.int .i64 0))])),cL 2 7 17],ab [ba 19 4 2,ba 20 2 7,bg 21 187 [19,20],aa 18 21,dz 22 0 18,dz 23 1 18,aa 8 22,aa 9 23],ab [aa 24 9],bf 24 (ae [ab [ba 25 4 2,aa 26 8,bg 27 188 [25,26],aa 10 27],ab [aa 28 5,aa 29 10,aa 30 5,aa 31 10,((some 32),.op (.old (.lookup 209 (.tmp 30) (.tmp 31) false) 103)),al 33 0 7,ak 34 33,al 35 1 7,ak 36 35,aF 37 .add 36 1,((some 38),.op (.build [(.val (.int .i64 0)),(.val (.int .i64 0))] [(0,1,(.tmp 34)),(1,1,(.tmp 37))])),((some 39),.op (.bN 1 2 [(.val (.int .i64 0)),(.val (.int .i64 0))] [(0,(.tmp 38))])),gD 40 2 16 32 39,(none,.op (.old (.mapUpdate 209 (.tmp 28) (.tmp 29) (.tmp 40)) 0))]])]),ab [aF 41 .add 14 1,aa 14 41]]
def xj:SF:=⟨ae [ab [cG 2 0,((some 4),.op (.eJ (.val (.val (.map none)))))],ab [((some 11),.op (.o8)),aa 5 11],ae [ab [aa 12 1,aP 13 12,aR 14 0],cd 0 tv],ab [aa 42 5,aa 4 42],.ret],
 [.tmp 4],43⟩
theorem AK:aI Tryz.prog 122 [2]=some xj:=by kernel_rfl
def xE:SC :=
 ae [ab [aU 9 .lss 8 7],cb 9 (.exit 0),.block 1 (ae [ab [aZ 10 2 6 8,ba 11 2 10,((some 5),.op (.alloc [(.val (.int .i64 0)),(.val (.int .i64 0))])),cL 2 5 11],ab [aa 12 3,al 13 0 5,ak 14 13,aF 15 .add 14 1,((some 16),.op (.conv .u8 (.tmp 15))),al 17 1 5,ak 18 17,((some 19),.op (.conv .u8 (.tmp 18))),((some 20),.op (.bN 2 1 [(.val (.int .u8 0))] [(0,(.tmp 16)),(1,(.tmp 19))])),gD 21 1 1 12 20,aa 3 21]]),ab [aF 22 .add 8 1,aa 8 22]]
def AJ:SF:=⟨ae [.region false [⟨none,[((some 2),.op (.eJ (.val (.val (.string ⟨#[]⟩)))))]⟩],ab [bQ 3 1],ae [ab [aa 6 0,aP 7 6,aR 8 0],cd 0 xE],ab [aa 23 3,((some 24),.op (.old (.convert 90 9 (.tmp 23)) 9)),aa 2 24],.ret],
 [.tmp 2],25⟩
theorem Dr:aI Tryz.prog 121 []=some AJ:=by kernel_rfl
theorem D8 (g:af) (K:g.cZ) (l:List aD) (M:∀ x∈l,b6 g x) (C:l.length<=10000) (u:V) (H:View) (L:aJ H u 2 (aM l)):au Tryz.prog 121 [u] H λr H'=>r=.val (gJ (fF l))/\∀ id,H id≠.dead->H' id=H id:=by
 refine au.of mixed Dr ?_
 have hlen:bZ u=some l.length:=by rw[L.len,bw]
 have N:=K.rules
 simp(disch:=omega)only[↓wr,seval,wq,AJ,hlen]
 refine aY.up l.length (λi T H'=>∃ b:V,aJ H' b 1 ((oJ (l.take i)).map λn=>[gy n])/\cw H H' b/\T 3=b/\T 6=u/\T 7=gi l.length/\T 8=gi i) ⟨.emp 1,.nil,.emp,rfl,rfl,rfl,rfl⟩ ?_
 rintro i k T H' hk ⟨b,v,w,t3,t6,t7,t8⟩
 simp(disch:=omega)only[↓wr,seval,wq,xE,t3,t6,t7,t8]
 apply ai.dec<;>intro O
 .have D:l[i]?=some (l[i]'(by omega)):=Sn (by omega)
  have f:=M _ (Sx (show i < l.length by omega))
  have z:l.take (i+1)=l.take i ++ [l[i]'(by omega)]:=by rw[S6,D];rfl
  generalize l[i]'(by omega)=x at D f z
  have P:=dy K f.1
  have Q:=f.1
  have R:=f.2
  obtain⟨id,hu,a⟩:=L.sl (by rw[bw];omega)
  have A:H' id=.arr 2 (aM l):=by rw[(w id (by rw[a];simp)).1,a]
  rw[bw] at hu
  subst hu
  have E:=OM (l.take i)
  rw[Tv] at E
  simp(disch:=omega)only[↓wr,seval,wq,t3,t6,t7,t8,A,pr D,O4 (x:=x.aw+1) (by omega) (by omega),O4 (x:=x.dot) (by omega) (by omega)]
  refine⟨by omega,by rw[bw];omega,?_⟩
  intro q B o F
  obtain⟨G,p⟩:=bR F (by simp)
  rw[Sr G] at p
  have I:∀ j,H j≠.dead->j≠q/\j≠o:=λj c=>by
   have h1:=(w j c).1
   exact⟨λe=>c (by rw[e] at h1 ⊢;rw[<-h1,B]),λe=>c (by rw[e] at h1 ⊢;rw[<-h1,p])⟩
  have J:∀ a0 h a2,aJ (((H'.set q a0).set q h).set o a2) b 1 ((oJ (l.take i)).map λn=>[gy n]):=λa0 h a2=>v.keep λid a=>by
   have h1:=(v.live a).1
   have s:id≠q:=by rintro rfl;rw[B] at h1;simp at h1
   have t:id≠o:=by rintro rfl;rw[p] at h1;simp at h1
   simp[View.set,s,t]
  have m:∀ a0 h a2 j,H j≠.dead->(((H'.set q a0).set q h).set o a2) j=H j:=λa0 h a2 j c=>by
   obtain⟨s,t⟩:=I j c
   simp[View.set,s,t,(w j c).1]
  have d:∀ (a0 h:dF) (s t:List V),bA (((H'.set q a0).set q h).set o (.arr 1 [s,t])) (.sl o 0 2 1)=some ([s,t],[o]):=λa0 h s t=>by simp[bA,View.set]
  simp(disch:=omega)only[↓wr,seval,wq,d,t3]
  refine fE (J _ _ _) (by simp[aE]) (by unfold aC;simp;omega) (by unfold aC;simp;omega) ?_
  intro S Y U W
  simp(disch:=omega)only[↓wr,seval,wq,t6,t7,t8]
  refine aH hk (by omega) ⟨S,?_,λj c=>?_,rfl,t6,t7,rfl⟩
  .have:(oJ (l.take (i+1))).map (λn=>[gy n])=(oJ (l.take i)).map (λn=>[gy n]) ++ [[gy (x.aw+1)],[gy x.dot]]:=by
    rw[z];simp[oJ]
   rw[this];exact U
  .obtain⟨X,k2⟩:=W j (by rw[m _ _ _ j c];exact c) (w j c).2
   exact⟨by rw[X,m _ _ _ j c],k2⟩
 .rw[SL (by omega)] at v
  simp(disch:=omega)only[↓wr,seval,wq,t3]
  have d:∃ rd,bA H' b=some ((oJ l).map (λn=>[gy n]),rd):=by
   rcases v with ⟨e,k,rfl⟩ | ⟨n,rfl,C⟩
   .exact⟨[],by rw[e];rfl⟩
   .rcases B:(oJ l).map (λn=>[gy n]) with _ | ⟨y,ys⟩
    .exact⟨[],by simp[bA]⟩
    .rw[B] at C
     exact⟨[n],by
      have:=ni (H:=H') n 0 ys.length 1 1 (y :: ys) C (by simp)
      rw[SA,this];simp⟩
  obtain⟨rd,d⟩:=d
  refine Qt (u:=b) (xs:=(oJ l).map λn=>[gy n]) (rd:=rd) (k:=((oJ l).map λn=>[gy n]).length) (l:=fF l) Tryz.underlying90 Tryz.underlying5 Tryz.underlying9 (by simp(disch:=omega)only[↓wr,seval,wq];exact t3) d v.len (Ac l) ?_
  simp(disch:=omega)only[↓wr,seval,wq]
  exact λid a=>(w id a).1
theorem wQ (g:af) (p:List aD) (y:aD) (s:Int):aX g (p ++ [y]) s=if bo g y=(s,true) then aX g p s ++ [⟨y.aw,y.dot+1⟩] else aX g p s:=by
 unfold aX
 rw[Uo,S0]
 split
 .rename_i h;simp[h]
 .rename_i h;simp[h]
def iJ (g:af) (p:List aD) (A:cp Int):List dG:=A.map λx=>(x.2.1,2,aM (aX g p (aN g x.1.toNat)))
structure rN (g:af) (p:List aD) (H0 H:View) (q:Nat) (A:cp Int):Prop where
 mp:∃ c,H q=.map (b3 (Value.int .i64) A) c
 nd:(A.map (·.1)).Nodup
 own:bc H (iJ g p A)
 ne:∀ x∈A,0<=x.1/\aX g p (aN g x.1.toNat)≠[]
 all:∀ k:Nat,aX g p (aN g k)≠[]->((k:Nat):Int)∈A.map (·.1)
 old:∀ id,H0 id≠.dead->H id=H0 id
 q0:H0 q=.dead
 new:∀ x∈A,∀ id,owner x.2.1=some id->H0 id=.dead
theorem getM_none {A:cp Int} {k:Int} : getM A k=none↔k ∉ A.map (·.1):=by
 induction A with
 | nil=>simp[getM]
 | cons x A a =>
  unfold getM at a ⊢
  rw[Uz]
  by_cases h:k=x.1
  .simp[h]
  .simp only[beq_eq_false_iff_ne.2 h,S7,SM,not_or]
   rw[a]
   simp[h]
theorem uJ {A:cp Int} {k:Int} {v:V} (h:getM A k=some v):∃ a d b,A=a ++ (k,v,b) :: d/\k ∉ a.map (·.1)/\∀ v' c,bF k v' c A=a ++ (k,v',b) :: d:=by
 induction A with
 | nil=>simp[getM] at h
 | cons x A f =>
  unfold getM at h f
  rw[Uz] at h
  by_cases e:k=x.1
  .simp only[e,Uv,SD,Sq] at h
   refine⟨[],A,x.2.2,by rw[e,<-h];rfl,by simp,λv' c=>?_⟩
   rw[bF,e,Uv,St rfl];rfl
  .rw[beq_eq_false_iff_ne.2 e] at h
   obtain⟨a,d,b,rfl,g,i⟩:=f h
   refine⟨x :: a,d,b,rfl,by simp only[S7,SM,not_or];exact⟨e,g⟩,λv' c=>?_⟩
   rw[bF,beq_eq_false_iff_ne.2 e,i];rfl
theorem Ny {A:cp Int} {k:Int} (h:k ∉ A.map (·.1)) (v:V) (c:Nat):bF k v c A=A ++ [(k,v,c)]:=by
 induction A with
 | nil=>rfl
 | cons x A a =>
  simp only[S7,SM,not_or] at h
  rw[bF,beq_eq_false_iff_ne.2 h.1,a h.2];rfl
theorem rN.skip {g:af} {p:List aD} {a H:View} {q:Nat} {A:cp Int} (h:rN g p a H q A) {y:aD} (b:(bo g y).2=false):rN g (p ++ [y]) a H q A:=by
 have e:∀ s,aX g (p ++ [y]) s=aX g p s:=λs=>by rw[wQ,Sr (λh=>by rw[h] at b;simp at b)]
 have c:iJ g (p ++ [y]) A=iJ g p A:=by simp only[iJ,e]
 exact⟨h.mp,h.nd,by rw[c];exact h.own,λx d=>by rw[e];exact h.ne x d,λk hk=>by rw[e] at hk;exact h.all k hk,h.old,h.q0,h.new⟩
theorem rN.val {g:af} {p:List aD} {d H:View} {q:Nat} {A:cp Int} (h:rN g p d H q A) (r:Nat):aJ H ((getM A r).getD (.emp 1)) 2 (aM (aX g p (aN g r))):=by
 cases c:getM A r with
 | none =>
  have e:=getM_none.1 c
  have:aX g p (aN g r)=[]:=Decidable.byContradiction λa=>e (h.all r a)
  rw[this];exact .nil
 | some v =>
  obtain⟨f,i,b,rfl,_,_⟩:=uJ c
  have:=h.own.1 (v,2,aM (aX g p (aN g r))) (by simp[iJ])
  exact this
theorem rN.put {g:af} {p:List aD} {B H:View} {q:Nat} {A:cp Int} (h:rN g p B H q A) {y:aD} {r:Nat} (W:bo g y=(aN g r,true)) {H1:View} {v':V} (X:aJ H1 v' 2 (aM (aX g p (aN g r) ++ [⟨y.aw,y.dot+1⟩]))) (w:Left H H1 ((getM A r).getD (.emp 1)) v') (c C:Nat) :
  rN g (p ++ [y]) B (H1.set q (.map (b3 (Value.int .i64) (bF (r:Int) v' c A)) C)) q (bF (r:Int) v' c A):=by
 obtain⟨c0,O⟩:=h.mp
 have hr:aX g (p ++ [y]) (aN g r)=aX g p (aN g r) ++ [⟨y.aw,y.dot+1⟩]:=by rw[wQ,St W]
 have i:∀ x:Int × V × Nat,0<=x.1->x.1≠r->aX g (p ++ [y]) (aN g x.1.toNat)=aX g p (aN g x.1.toNat):=λx Q d=>by
  rw[wQ,Sr]
  intro e
  rw[W] at e
  simp only[Su,and_true] at e
  have h1:=vf g r
  rw[e,vf] at h1
  omega
 have D:owner ((getM A r).getD (.emp 1))≠some q:=λe=>by
  have:=((h.val r).live e).1
  rw[O] at this;simp at this
 have E:H1 q≠.dead/\owner v'≠some q:=by
  obtain⟨k1,k2⟩:=w q (by rw[O];simp) D
  exact⟨by rw[k1,O];simp,k2⟩
 have hold:∀ id,B id≠.dead->id≠q/\owner ((getM A r).getD (.emp 1))≠some id:=λid f=>by
  refine⟨λe=>f (by rw[e];exact h.q0),λe=>?_⟩
  cases t:getM A r with
  | none=>rw[t] at e;simp[owner] at e
  | some v =>
   rw[t] at e
   obtain⟨s,l,b,rfl,_,_⟩:=uJ t
   exact f (h.new (r,v,b) (by simp) id e)
 have m:∀ id,B id≠.dead->(H1.set q (.map (b3 (Value.int .i64) (bF (r:Int) v' c A)) C)) id=B id:=λid f=>by
  simp only[View.set]
  rw[Sr (hold id f).1,(w id (by rw[h.old id f];exact f) (hold id f).2).1,h.old id f]
 have F:∀ id,owner v'=some id->B id=.dead:=λid e=>TQ λf=>(w id (by rw[h.old id f];exact f) (hold id f).2).2 e
 have u:∀ {L:List dG},bc H1 L->(∀ x∈L,owner x.1≠some q)->bc (H1.set q (.map (b3 (Value.int .i64) (bF (r:Int) v' c A)) C)) L:=λY d=>⟨λx G=>(Y.1 x G).other (d x G),Y.2⟩
 have j:∀ x∈A,owner x.2.1≠some q:=λx d=>h.own.DT O _ (S5.2 ⟨x,d,rfl⟩)
 cases t:getM A r with
 | none =>
  have P:=getM_none.1 t
  rw[t] at w
  rw[Ny P] at *
  have R:iJ g (p ++ [y]) (A ++ [((r:Int),v',c)])=iJ g p A ++ [(v',2,aM (aX g p (aN g r) ++ [⟨y.aw,y.dot+1⟩]))]:=by
   simp only[iJ,S0,S7,T7,Tf,hr]
   congr 1
   refine List.map_congr_left λx d=>?_
   rw[i x (h.ne x d).1 (λe=>P (S5.2 ⟨x,d,e⟩))]
  refine⟨⟨C,by simp[View.set]⟩,?_,?_,λx d=>?_,λk hk=>?_,m,h.q0,λx d id e=>?_⟩
  .rw[S0,TT]
   refine⟨h.nd,by simp,λa ha b Z e=>?_⟩
   simp at Z;subst Z;subst e;exact P ha
  .rw[R]
   have S:bc H1 ((v',2,aM (aX g p (aN g r) ++ [⟨y.aw,y.dot+1⟩])) :: iJ g p A):=(h.own.emp (k:=1) (sz:=2)).left (by simpa using X) w
   refine u (S.perm (List.perm_append_comm (l₁:=[_]))) λx d=>?_
   rcases SS.1 d with d | d
   .obtain⟨z,I,rfl⟩:=S5.1 d
    exact j z I
   .simp at d;subst d;exact E.2
  .rcases SS.1 d with d | d
   .rw[i x (h.ne x d).1 (λe=>P (S5.2 ⟨x,d,e⟩))];exact h.ne x d
   .simp at d;subst d;simp[hr]
  .rw[S0,SS]
   by_cases e:k=r
   .right;simp[e]
   .left
    refine h.all k ?_
    have:=i ((k:Int),.any,0) (by simp) (by simp only;omega)
    simp only[Tf] at this
    rw[<-this];exact hk
  .rcases SS.1 d with d | d
   .exact h.new x d id e
   .simp at d;subst d;exact F id e
 | some v =>
  obtain⟨s,l,b,rfl,T,J⟩:=uJ t
  rw[t] at w
  rw[J] at *
  have K:=h.nd
  rw[S0,S7,TT] at K
  have U:(r:Int) ∉ l.map (·.1):=(Tx.1 K.2.1).1
  have M:∀ x∈s,x.1≠r:=λx d e=>T (S5.2 ⟨x,d,e⟩)
  have N:∀ x∈l,x.1≠r:=λx d e=>U (S5.2 ⟨x,d,e⟩)
  have n:∀ x∈s,x∈s ++ ((r:Int),v,b) :: l:=λx d=>List.mem_append_left _ d
  have o:∀ x∈l,x∈s ++ ((r:Int),v,b) :: l:=λx d=>List.mem_append_right _ (SQ _ d)
  have R:iJ g (p ++ [y]) (s ++ ((r:Int),v',b) :: l)=iJ g p s ++ (v',2,aM (aX g p (aN g r) ++ [⟨y.aw,y.dot+1⟩])) :: iJ g p l:=by
   simp only[iJ,S0,S7,Tf,hr]
   congr 1
   .refine List.map_congr_left λx d=>?_
    rw[i x (h.ne x (n x d)).1 (M x d)]
   .congr 1
    refine List.map_congr_left λx d=>?_
    rw[i x (h.ne x (o x d)).1 (N x d)]
  have e0:iJ g p (s ++ ((r:Int),v,b) :: l)=iJ g p s ++ (v,2,aM (aX g p (aN g r))) :: iJ g p l:=by
   simp only[iJ,S0,S7,Tf]
  refine⟨⟨C,by simp[View.set]⟩,by simpa using h.nd,?_,λx d=>?_,λk hk=>?_,m,h.q0,λx d id e=>?_⟩
  .rw[R]
   have Q:=h.own
   rw[e0] at Q
   have S:bc H1 ((v',2,aM (aX g p (aN g r) ++ [⟨y.aw,y.dot+1⟩])) :: (iJ g p s ++ iJ g p l)):=(Q.perm Uw).left X w
   refine u (S.perm Uw.symm) λx d=>?_
   rcases SS.1 d with d | d
   .obtain⟨z,I,rfl⟩:=S5.1 d
    exact j z (n z I)
   .rcases SM.1 d with rfl | d
    .exact E.2
    .obtain⟨z,I,rfl⟩:=S5.1 d
     exact j z (o z I)
  .rcases SS.1 d with d | d
   .rw[i x (h.ne x (n x d)).1 (M x d)];exact h.ne x (n x d)
   .rcases SM.1 d with rfl | d
    .simp[hr]
    .rw[i x (h.ne x (o x d)).1 (N x d)];exact h.ne x (o x d)
  .by_cases e:k=r
   .subst e;simp
   .have:=i ((k:Int),.any,0) (by simp) (by simp only;omega)
    simp only[Tf] at this
    rw[this] at hk
    have:=h.all k hk
    simpa using this
  .rcases SS.1 d with d | d
   .exact h.new x (n x d) id e
   .rcases SM.1 d with rfl | d
    .exact F id e
    .exact h.new x (o x d) id e
theorem rN.fresh {g:af} {p:List aD} {e H:View} {q:Nat} {A:cp Int} (h:rN g p e H q A) {n:Nat} (b:H n=.dead) (o:dF):rN g p e (H.set n o) q A:=by
 obtain⟨c,d⟩:=h.mp
 have f:q≠n:=by rintro rfl;rw[b] at d;simp at d
 refine⟨⟨c,by simp[View.set,f,d]⟩,h.nd,h.own.fresh b,h.ne,h.all,λid a=>?_,h.q0,h.new⟩
 have i:id≠n:=by rintro rfl;rw[h.old id a] at b;exact a b
 simp[View.set,i,h.old id a]
theorem OG (g:af) (w:g.cZ) (l:List aD) (hl:∀ x∈l,b6 g x) (L:l.length<=10000) (u:V) (H:View) (ho:aJ H u 2 (aM l)):au Tryz.prog 122 [.agg (ag g),u] H λr H'=>∃ q A,r=.mp q/\rN g l H H' q A:=by
 refine au.of mixed AK ?_
 have hlen:bZ u=some l.length:=by rw[ho.len,bw]
 have hT:=w.ao
 have hN:=w.aj
 simp(disch:=omega)only[↓wr,seval,wq,xj,ag,encS,hlen]
 intro q M
 have N:rN g [] H (H.set q (.map [] 0)) q []:=⟨⟨0,by simp[View.set,b3]⟩,by simp,⟨by simp[iJ],by simp[iJ]⟩,by simp,λk hk=>absurd rfl hk,λid j=>by
  have:id≠q:=by rintro rfl;exact j M
  simp[View.set,this],M,by simp⟩
 generalize H.set q (.map [] 0)=H1 at N
 try simp(disch:=omega)only[↓wr,seval,wq]
 refine aY.up l.length (λi T H'=>∃ A,rN g (l.take i) H H' q A/\T 2=.aG (ag g) 0/\T 5=.mp q/\T 12=u/\T 13=gi l.length/\T 14=gi i) ⟨[],N,rfl,rfl,rfl,rfl,rfl⟩ ?_
 clear N M
 rintro i k T H' hk ⟨A,D,t2,t5,t12,t13,t14⟩
 simp(disch:=omega)only[↓wr,seval,wq,tv,t2,t5,t12,t13,t14]
 apply ai.dec<;>intro hc
 .have O:l[i]?=some (l[i]'(by omega)):=Sn (by omega)
  have a:=hl _ (Sx (show i < l.length by omega))
  have B:l.take (i+1)=l.take i ++ [l[i]'(by omega)]:=by rw[S6,O];rfl
  generalize l[i]'(by omega)=x at O a B
  have h1:=Ea g w x a
  cases b:bo g x with
  | mk s P =>
  have Q:=uT w a b
  rw[b] at h1
  have aq:=dy w a.1
  have ar:=a.2
  obtain⟨id,hu,j⟩:=ho.sl (by rw[bw];omega)
  have p:H' id=.arr 2 (aM l):=by rw[D.old id (by rw[j];simp),j]
  rw[bw] at hu
  subst hu
  simp only[ag,encS,bq] at h1
  simp(disch:=omega)only[↓wr,seval,wq,t2,t5,t12,t13,t14,p,pr O]
  refine⟨by omega,by rw[bw];omega,?_⟩
  intro E F
  rw[set_set]
  have d:(H'.set E (.arr 2 [[gi x.aw,gi x.dot]])) E=.arr 2 [[gi x.aw,gi x.dot]]:=by simp[View.set]
  have f:=D.fresh F (.arr 2 [[gi x.aw,gi x.dot]])
  generalize H'.set E (.arr 2 [[gi x.aw,gi x.dot]])=R at d f
  clear D F p
  try simp(disch:=omega)only[↓wr,seval,wq,t2,t5,d,ag,encS]
  refine av.pure h1 ?_
  cases P with
  | false =>
   simp(disch:=omega)only[↓wr,seval,wq,t2,t5,t12,t13,t14]
   exact aH hk (by omega) ⟨A,by rw[B];exact f.skip (by rw[b]),t2,t5,t12,t13,rfl⟩
  | true =>
  have hh:=rf w a b
  obtain⟨r1,r2⟩:=HD hh
  obtain⟨r3,r4⟩:=EF r1
  obtain⟨r,hr⟩:∃ r:Nat,lI g s=r:=⟨(lI g s).toNat,by omega⟩
  rw[hr,Tf] at r4
  have S:=NW g w s Q
  rw[hr] at S
  simp only[ag,encS] at S
  simp(disch:=omega)only[↓wr,seval,wq,t2,t5,ag,encS]
  refine av.pure S ?_
  obtain⟨c,U⟩:=f.mp
  simp(disch:=omega)only[↓wr,seval,wq,t5]
  refine xT (kt:=3) (et:=103) (z:=.emp 1) (by kernel_rfl) (by kernel_rfl) (j8 .i64 Tryz.underlying3) (id:=q) (c:=c) (m:=A) (k:=(r:Int)) (by simp(disch:=omega)only[↓wr,seval,wq]) (by simp(disch:=omega)only[↓wr,seval,wq]) U ?_
  have a1:=f.val r
  have an:∀ n o,R n=.dead->(R.set n o) E=.arr 2 [[gi x.aw,gi x.dot]]:=λn o L=>by
   have:E≠n:=by rintro rfl;rw[d] at L;simp at L
   simp[View.set,this,d]
  try simp(disch:=omega)only[↓wr,seval,wq,d]
  intro W X
  have C:=f.fresh X (.arr 2 [[gi x.aw,gi (x.dot+1)]])
  have t:=C.val r
  have Y:bA (R.set W (.arr 2 [[gi x.aw,gi (x.dot+1)]])) (.sl W 0 1 2)=some ([[gi x.aw,gi (x.dot+1)]],[W]):=by simp[bA,View.set]
  simp(disch:=omega)only[↓wr,seval,wq,Y]
  have Z:=ry (g:=g) (l:=l.take i) (s:=aN g r)
  rw[Tv] at Z
  refine fE t (by simp[aE]) (by unfold aC;rw[bw];simp;omega) (by unfold aC;rw[bw];simp;omega) ?_
  intro v' H6 o6 l6
  obtain⟨K,h⟩:=C.mp
  have G:owner ((getM A (r:Int)).getD (.emp 1))≠some q:=λe=>by
   have:=(t.live e).1
   rw[h] at this;simp at this
  have I:H6 q=.map (b3 (Value.int .i64) A) K:=by
   rw[(l6 q (by rw[h];simp) G).1,h]
  simp(disch:=omega)only[↓wr,seval,wq,t5]
  refine tH (kt:=3) (et:=103) (by kernel_rfl) (j8 .i64 Tryz.underlying3) (id:=q) (c:=K) (m:=A) (k:=(r:Int)) (v:=v') (by simp(disch:=omega)only[↓wr,seval,wq]) (by simp(disch:=omega)only[↓wr,seval,wq]) (by simp(disch:=omega)only[↓wr,seval,wq]) I ?_
  intro c'
  simp(disch:=omega)only[↓wr,seval,wq,t2,t5,t12,t13,t14]
  have J:=C.put (y:=x) (r:=r) (by rw[b,r4]) (H1:=H6) (v':=v') (by
   have e:aM (aX g (l.take i) (aN g r) ++ [⟨x.aw,x.dot+1⟩])=aM (aX g (l.take i) (aN g r)) ++ [[gi x.aw,gi (x.dot+1)]]:=by simp[aM,bq]
   rw[e];exact o6) l6 K c'
  exact aH hk (by omega) ⟨bF (r:Int) v' K A,by rw[B];exact J,t2,t5,t12,t13,rfl⟩
 .rw[SL (by omega)] at D
  simp(disch:=omega)only[↓wr,seval,wq,t5]
  exact⟨q,A,rfl,D⟩
theorem av.still {P:Program} {f:FuncId} {vs:List V} {H:View} {K:V->View->Prop} {w:cx (H,K)} {a:V->View->Prop} (b:au P f vs H a) (c:∀ r H',a r H'->∀ id,H id≠.dead->H' id=H id) (hk:∀ r H',a r H'->K r H'):av P true f vs H K w:=by
 unfold av
 simp only[if_true]
 exact(b.mono λr H' h=>⟨c r H' h,hk r H' h⟩).Ki
theorem bc.join {H:View} {L M:List dG} (h:bc H L) (k:bc H M) (g:∀ x∈L,∀ y∈M,∀ id,owner x.1=some id->owner y.1≠some id):bc H (L ++ M):=by
 refine⟨λx c=>?_,?_⟩
 .rcases SS.1 c with c | c
  .exact h.1 x c
  .exact k.1 x c
 .rw[List.filterMap_append,TT]
  refine⟨h.2,k.2,λa i b j e=>?_⟩
  obtain⟨x,c,d⟩:=TM.1 i
  obtain⟨y,l,f⟩:=TM.1 j
  subst e
  exact g x c y l a d f
theorem bc.sub {H:View} {L M:List dG} (h:bc H L) (a:M.Sublist L):bc H M :=
 ⟨λx b=>h.1 x (a.subset b),h.2.sublist (a.filterMap _)⟩
theorem LW {l:List aD} (g:bX l) (i:l.length<=100000) (u:V) (H:View) (b:aJ H u 2 (aM l)):au Tryz.prog 124 [u] H λr H'=>H=H'/\aJ H r 2 (aM l)/\(l≠[]->r=u):=by
 refine(HB l i u H b).mono ?_
 rintro r H' ⟨j,k2,a⟩
 rw[Jt g] at k2
 have e:H'=H:=by
  funext id
  by_cases h:owner u=some id
  .rw[(b.live h).1,(k2.live (by rw[a];exact h)).1]
  .exact j id h
 subst e
 refine⟨rfl,k2,λc=>?_⟩
 have hp:0 < (aM l).length:=by rw[bw];exact Uu.2 c
 obtain⟨n,d,_⟩:=b.sl hp
 obtain⟨m,f,_⟩:=k2.sl hp
 rw[d,f] at a
 simp only[owner,Sq] at a
 rw[d,f,a]
def pZ (g:af) (out:List aL) (M:cp (List UInt8)):Prop:=∀ l:List aD,(∀ x∈l,b6 g x)->getM M (fF l)=if findD out l < 0 then none else some (gi (findD out l))
theorem C7:∀ {a b:List aL},a.map aL.bb=b.map aL.bb->∀ k,findD a k=findD b k
 | [],[],_,_=>rfl
 | [],_ :: _,h,_=>by simp at h
 | _ :: _,[],h,_=>by simp at h
 | s :: a,t :: b,h,k=>by
  simp only[S7,List.cons.injEq] at h
  rw[findD,findD,h.1,C7 h.2 k]
theorem Ah:∀ (a:List aL) (s:aL) (k:List aD),findD (a ++ [s]) k=if 0<=findD a k then findD a k else if s.bb=k then (a.length:Int) else -1
 | [],s,k=>by by_cases e:s.bb=k <;> simp[findD,e]
 | t :: a,s,k=>by
  have b:=Ah a s k
  have h1:=qR a k
  rw[Th,findD,findD,b]
  simp only[SA]
  push_cast
  by_cases e:t.bb=k <;> by_cases c:s.bb=k <;> by_cases d:0<=findD a k <;> simp only[e,c,d,if_true,if_false] <;> (repeat' split) <;> omega
theorem pZ.same {g:af} {a b:List aL} {M:cp (List UInt8)} (h:pZ g a M) (e:a.map aL.bb=b.map aL.bb):pZ g b M:=λl c=>by
 rw[h l c,C7 e]
theorem pZ.put {g:af} (d:g.cZ) {out:List aL} {M:cp (List UInt8)} (h:pZ g out M) {k:List aD} (hk:∀ x∈k,b6 g x) (i:findD out k < 0) (c:Nat):pZ g (out ++ [⟨k,[]⟩]) (bF (fF k) (gi out.length) c M):=λl a=>by
 have h1:=Ah out ⟨k,[]⟩ l
 have j:=qR out l
 rw[oO]
 by_cases e:l=k
 .subst e
  rw[Sr (by omega),St rfl] at h1
  rw[h1,Uv,St rfl,Sr (by omega)]
 .have f:(fF l == fF k)=false:=beq_eq_false_iff_ne.2 λh=>e (EH d a hk h)
  rw[f,h l a]
  simp only[SU,if_false]
  by_cases b:0<=findD out l
  .rw[St b] at h1
   rw[h1]
  .rw[Sr b,Sr (λh=>e h.symm)] at h1
   rw[h1,St (by omega),St (by omega)]
theorem Fy {A:cp Int} {k:Nat} {v:V} (d:(A.map (·.1)).Nodup) (h:getM A (k:Int)=some v):∃ b,(A.filter (λx=>decide (((k:Nat):Int)<=x.1))).Perm (((k:Int),v,b) :: A.filter (λx=>decide (((k+1:Nat):Int)<=x.1))):=by
 obtain⟨g,f,b,rfl,a,_⟩:=uJ h
 rw[S0,S7,TT] at d
 have c:(k:Int) ∉ f.map (·.1):=(Tx.1 d.2.1).1
 have e:∀ B:cp Int,(k:Int) ∉ B.map (·.1)->B.filter (λx=>decide (((k:Nat):Int)<=x.1))=B.filter (λx=>decide (((k+1:Nat):Int)<=x.1)):=λB i=>List.filter_congr λx j=>by
  have:x.1≠(k:Int):=λe=>i (S5.2 ⟨x,j,e⟩)
  rw[decide_eq_decide];omega
 refine⟨b,?_⟩
 rw[Uo,Uo,List.filter_cons,List.filter_cons,St (by simp),Sr (by simp only[SN];push_cast;omega),e g a,e f c]
 exact Uw
theorem QU {α:Type} {e u r:α} {S X Y:List α} (h:X.Perm (r :: Y)):(e :: u :: (S ++ X)).Perm (u :: ((S ++ [r,e]) ++ Y)):=by
 refine(List.Perm.swap _ _ _).trans (.cons _ ?_)
 rw[TB]
 refine((h.append_left S).cons e).trans ?_
 exact Uw.symm.trans ((List.Perm.swap _ _ _).append_left S)
theorem DP {α:Type} {u k e:α} {S R:List α} : (u :: (S ++ k :: e :: R)).Perm (e :: u :: (S ++ k :: R)):=by
 have h:(S ++ k :: e :: R).Perm (e :: (S ++ k :: R)):=by
  have:=Uw (a:=e) (l₁:=S ++ [k]) (l₂:=R)
  simpa using this
 exact(h.cons u).trans (List.Perm.swap _ _ _)
def td:SC :=
 ae [ab [aU 49 .lss 48 47],cb 49 (.exit 2),.block 3 (ae [ab [aa 50 48,aa 9 50],ab [aa 51 8,aa 52 9,((some 53),.op (.old (.lookup 209 (.tmp 51) (.tmp 52) false) 103)),bg 54 124 [53],aa 10 54],ae [ab [aa 55 10,aP 56 55,aF 57 .eql 56 0],bf 57 (.exit 3)],ab [aa 58 9,aa 11 58],ae [ab [aa 59 9,al 60 0 1,ak 61 60,aP 62 61,aU 63 .geq 59 62],bf 63 (ab [al 64 0 1,ak 65 64,aP 66 65,aF 67 .sub 66 1,aa 68 9,aU 69 .sub 67 68,aa 11 69])],ab [aa 71 6,aa 72 10,bg 73 121 [72],((some 74),.op (.old (.lookup 208 (.tmp 71) (.tmp 73) true) 66)),aa 70 74,dz 75 0 70,dz 76 1 70,aa 12 75,aa 13 76],ae [ab [aa 77 13,dp 78 77],bf 78 (ae [ab [aa 79 5,aP 80 79,aa 12 80],ab [aa 81 6,aa 82 10,bg 83 121 [82],aa 84 12,(none,.op (.old (.mapUpdate 208 (.tmp 81) (.tmp 83) (.tmp 84)) 0))],ab [aa 85 5,aa 86 10,((some 87),.op (.build [(.emp 1),(.emp 1)] [(0,1,(.tmp 86))])),((some 88),.op (.bN 1 2 [(.emp 1),(.emp 1)] [(0,(.tmp 87))])),gD 89 2 48 85 88,aa 5 89]])],ab [aa 90 5,aa 91 7,aa 92 5,aa 93 7,aZ 94 2 92 93,al 95 1 94,ak 96 95,aa 97 11,aa 98 12,((some 99),.op (.build [(.val (.int .i64 0)),(.val (.int .i64 0))] [(0,1,(.tmp 97)),(1,1,(.tmp 98))])),((some 100),.op (.bN 1 2 [(.val (.int .i64 0)),(.val (.int .i64 0))] [(0,(.tmp 99))])),gD 101 2 16 96 100,aZ 102 2 90 91,al 103 1 102,cL 1 103 101]]),ab [aF 104 .add 48 1,aa 48 104]]
def tt:SC :=
 ae [ae [ab [aa 26 7,aa 27 5,aP 28 27,aU 29 .lss 26 28],cb 29 (.exit 0)],.block 1 (ae [.region true [⟨none,[ba 32 4 1,ba 33 4 1,aa 34 5,aa 35 7,aZ 36 2 34 35,al 37 0 36,ak 38 37,bg 39 123 [33,38],bg 40 122 [32,39],aa 8 40]⟩],ae [ab [al 41 0 1,ak 42 41,aP 43 42,al 44 1 1,ak 45 44,aP 46 45,aU 47 .add 43 46,aR 48 0],cd 2 td],ab [aa 105 5,aP 106 105,aF 107 .gtr 106 300],bf 107 (ae [ab [bQ 2 1,aR 3 5],.ret])]),ab [aa 30 7,aF 31 .add 30 1,aa 7 31]]
def wZ:SF:=⟨ae [ab [cG 1 0,bQ 2 1,aR 3 0],ae [ab [ba 14 4 1,bg 15 82 [14],dp 16 15],bf 16 (ae [ab [bQ 2 1,aR 3 1],.ret])],ab [((some 17),.op (.build [(.val (.int .i64 0)),(.val (.int .i64 0))] [(0,1,(.val (.val (.int .i64 (-1)))))])),((some 18),.op (.bN 1 2 [(.val (.int .i64 0)),(.val (.int .i64 0))] [(0,(.tmp 17))])),aa 4 18],ab [aa 19 4,((some 20),.op (.build [(.emp 1),(.emp 1)] [(0,1,(.tmp 19))])),((some 21),.op (.bN 1 2 [(.emp 1),(.emp 1)] [(0,(.tmp 20))])),aa 5 21],ab [((some 22),.op (.o8)),aa 23 4,bg 24 121 [23],(none,.op (.old (.insert 208 (.tmp 22) (.tmp 24) (.const (.int .i64 0))) 0)),aa 25 22,aa 6 25],ae [ab [aR 7 0],cd 0 tt],ab [aa 108 5,aa 2 108,aR 3 0],.ret],
 [.tmp 2,.tmp 3],109⟩
theorem zw:aI Tryz.prog 60 [1]=some wZ:=by kernel_rfl
def Si (g:af) (m:Nat) (T:Env) (H:View):Prop:=∃ (at_:Nat) (u:V) (S:List nR) (out:List aL) (q c:Nat) (M:cp (List UInt8)),m+at_=302/\out=S.map (λx=>x.2.2)/\bc H ((u,2,ez S) :: kT S)/\dC g at_ 0 out/\1<=out.length/\out.length<=300/\eM g m at_ out=bI g/\at_<=out.length /\
 H q=.map (b3 gJ M) c/\pZ g out M/\T 1=.aG (ag g) 0/\T 5=u/\T 6=.mp q/\T 7=gi at_
theorem Cw (g:af) (hg:g.Ok) (gk:g.Small):cT Tryz.prog 60 [.agg (ag g)] (.aS [bJ (bI g).1,gi (bI g).2]):=by
 refine cT.of (fa g) ?_
 have ee:=P7 g hg gk
 refine au.of mixed zw ?_
 simp only[ag,encS] at ee
 simp(disch:=omega)only[↓wr,seval,wq,wZ,ag,encS]
 refine av.pure ee ?_
 simp(disch:=omega)only[↓wr,seval,wq]
 apply ai.split<;>intro hr
 rotate_left
 .simp(disch:=omega)only[↓wr,seval,wq]
  intro h' _
  have e:bI g=([],1):=by unfold bI;rw[Sr (by rw[hr];simp)]
  rw[e]
  exact mh (.emp _)
 have N:g.cZ:=qo hr
 have e0:eM g 302 0 dI=bI g:=by unfold bI;rw[St hr]
 have hT:=N.ao;have hN:=N.aj
 simp(disch:=omega)only[↓wr,seval,wq]
 intro Y q2 O q3 eg
 have cj:b6 g ⟨-1,0⟩:=(kh (g:=g)).bb ⟨[⟨-1,0⟩],[]⟩ (by simp[dI]) |>.2.2 _ (by simp)
 have o0:bc (((View.set (λ_=>dF.dead) Y (.arr 2 [[gi (-1),gi 0]])).set q2 (.arr 2 [[.sl Y 0 1 2,.emp 1]]))) ((.sl q2 0 1 2,2,ez [(.sl Y 0 1 2,.emp 1,⟨[⟨-1,0⟩],[]⟩)]) :: kT [(.sl Y 0 1 2,.emp 1,⟨[⟨-1,0⟩],[]⟩)]) :=
  (((bc.nil.emp (k:=1) (sz:=2)).new (n:=Y) rfl 2 [[gi (-1),gi 0]]).new (by simpa [View.set] using O) 2 [[.sl Y 0 1 2,.emp 1]])
 have o1:=o0.fresh (n:=q3) (by simpa [View.set] using eg) (o:=.map [] 0)
 have b7:((((View.set (λ_=>dF.dead) Y (.arr 2 [[gi (-1),gi 0]])).set q2 (.arr 2 [[.sl Y 0 1 2,.emp 1]])).set q3 (.map [] 0))) q3=.map (b3 gJ []) 0:=by simp[View.set,b3]
 generalize (((View.set (λ_=>dF.dead) Y (.arr 2 [[gi (-1),gi 0]])).set q2 (.arr 2 [[.sl Y 0 1 2,.emp 1]])).set q3 (.map [] 0))=H3 at o1 b7 ⊢
 clear o0 O eg
 have ei:aJ H3 (.sl Y 0 1 2) 2 (aM [⟨-1,0⟩]):=o1.1 _ (SQ _ (Ul ..))
 refine av.dW ((D8 g N [⟨-1,0⟩] (λx Z=>by simp at Z;subst Z;exact cj) (by simp) (.sl Y 0 1 2) H3 ei).mono ?_)
 rintro r H4 ⟨rfl,k4⟩
 have c3:H4 q3=.map (b3 gJ []) 0:=by rw[k4 q3 (by rw[b7];simp),b7]
 simp(disch:=omega)only[↓wr,seval,wq,QN]
 refine tH (kt:=9) (et:=3) (by kernel_rfl) (FZ Tryz.underlying9) (id:=q3) (c:=0) (m:=[]) (k:=fF [⟨-1,0⟩]) (v:=gi 0) (by simp(disch:=omega)only[↓wr,seval,wq]) (by simp(disch:=omega)only[↓wr,seval,wq]) rfl c3 ?_
 intro L
 have ek:pZ g dI (bF (fF [⟨-1,0⟩]) (gi 0) 0 []):=pZ.put (out:=[]) N (λl _=>by simp[getM,findD]) (λx Z=>by simp at Z;subst Z;exact cj) (by simp[findD]) 0
 have o2:=(o1.stay k4).AI c3 (o:=.map (b3 gJ (bF (fF [⟨-1,0⟩]) (gi 0) 0 [])) L)
 have c4:(H4.set q3 (.map (b3 gJ (bF (fF [⟨-1,0⟩]) (gi 0) 0 [])) L)) q3=.map (b3 gJ (bF (fF [⟨-1,0⟩]) (gi 0) 0 [])) L:=by simp[View.set]
 generalize H4.set q3 (.map (b3 gJ (bF (fF [⟨-1,0⟩]) (gi 0) 0 [])) L)=H5 at o2 c4 ⊢
 clear c3 b7 k4 ei o1
 clear H4 H3
 simp(disch:=omega)only[↓wr,seval,wq]
 refine aY.intro (Si g) 302 ⟨0,_,_,dI,q3,L,_,rfl,rfl,o2,kh,Sy _,by simp[dI],e0,by omega,c4,ek,rfl,rfl,rfl,rfl⟩ ?_
 clear o2 c4 ek
 clear H5 Y q2 q3 L
 rintro m T H ⟨at_,u,S,out,q,c,M,hm,rfl,P,hI,h1,ck,hl,hle,w,G,t1,t5,t6,t7⟩
 have a6:bZ u=some S.length:=by rw[P.head.len,cW]
 simp only[Sv] at h1 ck hle
 simp(disch:=omega)only[↓wr,seval,wq,tt,t1,t5,t6,t7,a6]
 apply ai.dec<;>intro hc
 rotate_left
 .simp(disch:=omega)only[↓wr,seval,wq,t5]
  have e1:bI g=(S.map (λx=>x.2.2),0):=by
   rw[<-hl]
   cases m with
   | zero=>rfl
   | succ m=>rw[eM,Sr (by simp;omega)]
  rw[e1]
  rintro h' rfl
  exact mh (B5 P.head λx Z=>⟨P.1 _ (SQ _ (ml Z).1),P.1 _ (SQ _ (ml Z).2)⟩)
 obtain⟨m,rfl⟩:∃ q,m=q+1:=⟨m - 1,by omega⟩
 have a7:at_ < S.length:=by omega
 obtain⟨d,x,t,rfl,an,Z⟩:=uD a7
 have da:x∈d ++ x :: t:=by simp
 obtain⟨eH,gl,a8⟩:=hI.bb x.2.2 (List.mem_map_of_mem da)
 have gr:=jm N eH a8
 have hh:aJ H u 2 (ez (d ++ x :: t)):=P.head
 obtain⟨id,hu,C⟩:=hh.sl (by rw[cW];omega)
 have bd:(ez (d ++ x :: t)).getD at_ []=[x.1,x.2.1]:=by simp[ez,Sm,<-an]
 have e3:cE g ((List.map (λx=>x.2.2) (d ++ x :: t)).getD at_ bD).bb=cE g x.2.2.bb:=by
  rw[Sm,Ss,Z];rfl
 have cu:=λn hn=>dC.row (hI.k6 N (show at_ < ((d ++ x :: t).map λx=>x.2.2).length by simpa using a7)).1 (hI.k6 N (show at_ < ((d ++ x :: t).map λx=>x.2.2).length by simpa using a7)).2 hI n hn
 rw[eM,St (by simpa using a7),s0] at hl
 rw[e3] at hl cu
 have e4:=qy g x.2.2.bb
 have db:∀ y∈cE g x.2.2.bb,b6 g y:=λy hy=>((fD N a8).1 hy).has a8
 rw[cW] at hu
 simp(disch:=omega)only[↓wr,seval,wq,t1,t5,t7,hu,C,bd,ag,encS]
 refine⟨by omega,by rw[cW];omega,?_⟩
 refine av.BJ (Gp g N x.2.2.bb a8 (by omega) x.1 H (P.1 _ (SQ _ (ml da).1))) ?_
 intro r H2 or fr
 simp(disch:=omega)only[↓wr,seval,wq,ag,encS]
 have hE:=jm N e4 db
 refine av.still (OG g N (cE g x.2.2.bb) db (by omega) r H2 or) (λr H' h=>by obtain⟨q,A,_,h⟩:=h;exact h.old) ?_
 rintro r2 H6 ⟨U,A,rfl,D⟩
 have dj:∀ id,H id≠.dead->H6 id=H id:=λid C=>by rw[D.old id (by rw[(fr id C).1];exact C),(fr id C).1]
 have cv:H6 q=.map (b3 gJ M) c:=by rw[dj q (by rw[w];simp),w]
 have o6:bc H6 ((u,2,ez (d ++ x :: t)) :: (kT (d ++ x :: t) ++ iJ g (cE g x.2.2.bb) (A.filter λy=>decide (((0:Nat):Int)<=y.1)))):=by
  have hA:A.filter (λy=>decide (((0:Nat):Int)<=y.1))=A:=List.filter_eq_self.2 λy hy=>by simpa using (D.ne y hy).1
  rw[hA]
  refine(P.stay dj).join (M:=iJ g (cE g x.2.2.bb) A) D.own λa ha b hb id h1 h2=>?_
  obtain⟨y,hy,rfl⟩:=S5.1 hb
  have h3:=D.new y hy id h2
  have h4:=P.live ha h1
  rw[(fr id h4).1] at h3
  exact h4 h3
 obtain⟨cA,Q⟩:=D.mp
 have hAnd:=D.nd
 have hd:U≠q:=by
  rintro rfl
  have:=D.q0
  rw[(fr _ (by rw[w];simp)).1,w] at this;simp at this
 have bl:∀ k:Nat,(getM A (k:Int)=none->aX g (cE g x.2.2.bb) (aN g k)=[]):=λk h=>Decidable.byContradiction λaq=>getM_none.1 h (D.all k aq)
 clear or fr C bd e3 Z dj D w
 generalize cE g x.2.2.bb=cl at *
 generalize E:(d ++ x :: t).map (λx=>x.2.2)=bn at *
 have e5:bn.length=(d ++ x :: t).length:=by rw[<-E];simp
 simp(disch:=omega)only[↓wr,seval,wq,t1,t5,t6,t7,ag,encS]
 refine aY.up (g.ao.length+g.aj.length) (λi T H'=>∃ (u:V) (S:List nR) (M:cp (List UInt8)) (c:Nat),S.map (λx=>x.2.2)=(List.range i).foldl (cO g cl at_) bn/\bc H' ((u,2,ez S) :: (kT S ++ iJ g cl (A.filter λy=>decide (((i:Nat):Int)<=y.1)))) /\
  H' U=.map (b3 (Value.int .i64) A) cA/\H' q=.map (b3 gJ M) c/\pZ g (S.map λx=>x.2.2) M/\T 1=.aG (ag g) 0/\T 5=u/\T 6=.mp q/\T 7=gi at_/\T 8=.mp U/\T 47=gi ((g.ao.length+g.aj.length:Nat):Int)/\T 48=gi i)
  ⟨u,_,M,c,E,o6,Q,cv,by rw[E];exact G,t1,by rw[<-hu];exact t5,t6,t7,rfl,?_,rfl⟩ ?_
 .push_cast;rfl
 rw[<-e5] at h1 ck hle a7
 clear o6 P hh hu t1 t5 t6 t7 a6 E da e5 hc eH gl a8 gr an Q cv G
 clear u H H2 H6 T id d x t M c r
 rintro i k T H' hk ⟨u,S,M,c,hA,P,Q,w,G,t1,t5,t6,t7,t8,t47,t48⟩
 obtain⟨iI,e6,e7⟩:=cu i (by omega)
 rw[<-hA] at iI e6 e7
 rw[Sv] at e6 e7
 have a6:bZ u=some S.length:=by rw[P.head.len,cW]
 simp(disch:=omega)only[↓wr,seval,wq,td,t1,t5,t6,t7,t8,t47,t48]
 apply ai.dec<;>intro hc
 rotate_left
 .have hi:i=g.ao.length+g.aj.length:=by omega
  subst hi
  rw[<-hA] at hl
  simp(disch:=omega)only[↓wr,seval,wq,t1,t5,t6,t7,a6]
  apply ai.dec<;>intro h3
  .simp(disch:=omega)only[↓wr,seval,wq]
   intro h' _
   rw[St (by rw[Sv];omega)] at hl
   rw[<-hl]
   exact mh (.emp _)
  .simp(disch:=omega)only[↓wr,seval,wq,t1,t5,t6,t7]
   rw[Sr (by rw[Sv];omega)] at hl
   exact⟨m,by omega,at_+1,u,S,_,q,c,M,by omega,rfl,P.sub (List.Sublist.cons_cons _ (List.sublist_append_left _ _)),iI.next,by rw[Sv];omega,by rw[Sv];omega,hl,by rw[Sv];omega,w,G,t1,t5,t6,rfl⟩
 have hj:i < g.ao.length+g.aj.length:=by omega
 have hF:=Be N hj
 have br:(List.range (i+1)).foldl (cO g cl at_) bn=cO g cl at_ (S.map λx=>x.2.2) i:=by rw[Uq,T4,<-hA];rfl
 have e8:aJ H' ((getM A (i:Int)).getD (.emp 1)) 2 (aM (aX g cl (aN g i))):=by
  cases hg:getM A (i:Int) with
  | none=>rw[bl i hg];exact .nil
  | some v =>
   obtain⟨b,hp⟩:=Fy hAnd hg
   refine P.1 (v,2,aM (aX g cl (aN g i))) (SQ _ (List.mem_append_right _ (S5.2 ⟨((i:Int),v,b),hp.mem_iff.2 (by simp),?_⟩)))
   simp
 have cC:(iJ g cl (A.filter λy=>decide (((i+1:Nat):Int)<=y.1))).Sublist (iJ g cl (A.filter λy=>decide (((i:Nat):Int)<=y.1))):=by
  have:A.filter (λy=>decide (((i+1:Nat):Int)<=y.1))=(A.filter (λy=>decide (((i:Nat):Int)<=y.1))).filter (λy=>decide (((i+1:Nat):Int)<=y.1)):=by
   rw[List.filter_filter]
   refine List.filter_congr λy _=>?_
   rw[<-Bool.decide_and,decide_eq_decide];omega
  rw[this]
  exact(List.filter_sublist).map _
 simp(disch:=omega)only[↓wr,seval,wq,t8,t48]
 refine xT (kt:=3) (et:=103) (z:=.emp 1) (by kernel_rfl) (by kernel_rfl) (j8 .i64 Tryz.underlying3) (id:=U) (c:=cA) (m:=A) (k:=(i:Int)) (by simp(disch:=omega)only[↓wr,seval,wq]) (by simp(disch:=omega)only[↓wr,seval,wq]) Q ?_
 simp(disch:=omega)only[↓wr,seval,wq]
 refine av.dW ((LW (Co (aN g i) e4) (by have:=ry (g:=g) (l:=cl) (s:=aN g i);omega) _ H' e8).mono ?_)
 rintro r _ ⟨rfl,or,e9⟩
 have hG:=ry (g:=g) (l:=cl) (s:=aN g i)
 have b8:=DZ (s:=aN g i) db
 have hq:bZ r=some (aX g cl (aN g i)).length:=by rw[or.len,bw]
 simp(disch:=omega)only[↓wr,seval,wq,hq]
 apply ai.eq<;>intro he
 .have fb:aX g cl (aN g i)=[]:=Ub.1 (by omega)
  simp(disch:=omega)only[↓wr,seval,wq,t1,t5,t6,t7,t8,t47,t48]
  exact aH hk (by omega) ⟨u,S,M,c,by rw[br,cO,St fb],P.sub (List.Sublist.cons_cons _ (cC.append_left _)),Q,w,G,t1,t5,t6,t7,t8,t47,rfl⟩
 have aq:aX g cl (aN g i)≠[]:=λe=>he (by rw[e];rfl)
 have ht:∃ v,getM A (i:Int)=some v:=by
  cases hg:getM A (i:Int) with
  | none=>exact absurd (bl i hg) aq
  | some v=>exact⟨v,rfl⟩
 obtain⟨v,hg⟩:=ht
 have dm:=e9 aq
 rw[hg] at dm
 simp only[SJ] at dm
 obtain⟨b,ds⟩:=Fy hAnd hg
 have b9:(iJ g cl (A.filter λy=>decide (((i:Nat):Int)<=y.1))).Perm ((r,2,aM (aX g cl (aN g i))) :: iJ g cl (A.filter λy=>decide (((i+1:Nat):Int)<=y.1))):=by
  have:=ds.map (λx:Int × V × Nat=>((x.2.1,2,aM (aX g cl (aN g x.1.toNat))):dG))
  simp only[S7,Tf] at this
  rw[dm];exact this
 have hv:=vd (S.map λx=>x.2.2) (aX g cl (aN g i))
 have hJ:=qR (S.map λx=>x.2.2) (aX g cl (aN g i))
 rw[Sv] at hv
 have cc:=G (aX g cl (aN g i)) b8
 have ff:at_ < S.length:=by omega
 obtain⟨d,x,t,I,an,Z⟩:=uD ff
 have hK:x.2.2.bT.length<=40:=(iI.bT at_ x.2.2 (by rw[Ss,Z];rfl)).1
 have bd:∀ B,(ez (d ++ x :: B)).getD at_ []=[x.1,x.2.1]:=λB=>by simp[ez,Sm,<-an]
 have fl:∀ (B:List nR) (c:eU),((d ++ x :: B).map λx=>x.2.2).modify at_ (λs=>(⟨s.bb,s.bT ++ [c]⟩:aL))=(d ++ (x.1,x.2.1,(⟨x.2.2.bb,x.2.2.bT ++ [c]⟩:aL)) :: B).map λx=>x.2.2:=λB c=>by
  rw[S0,S7,<-an,<-Sv (f:=λx:nR=>x.2.2),AS,S0,S7]
 simp(disch:=omega)only[↓wr,seval,wq,t1,t5,t6,t7,t8,ag,encS]
 apply ai.dec<;>intro hz
 simp(disch:=omega)only[↓wr,seval,wq,t1,t5,t6,t7,t8,ag,encS]
 have hs:aN g i=(g.ao.length:Int) - 1 - i:=by unfold aN;rw[Sr (by omega)];omega
 generalize (g.ao.length:Int) - 1 - (i:Int)=sv at hs ⊢
 rotate_left
 simp(disch:=omega)only[↓wr,seval,wq,t1,t5,t6,t7,t8,ag,encS]
 have hs:aN g i=(i:Int):=by unfold aN;rw[St (by omega)]
 generalize ((i:Nat):Int)=sv at hs ⊢
 all_goals (
  refine av.dW ((D8 g N (aX g cl (aN g i)) b8 (by omega) r H' or).mono ?_)
  rintro rk H3 ⟨rfl,k3⟩
  have W:H3 q=.map (b3 gJ M) c:=by rw[k3 q (by rw[w];simp),w]
  have bs:H3 U=.map (b3 (Value.int .i64) A) cA:=by rw[k3 U (by rw[Q];simp),Q]
  have o3:=P.stay k3
  have hB:aJ H3 r 2 (aM (aX g cl (aN g i))):=or.keep λid C=>k3 id (by rw[(or.live C).1];simp)
  simp(disch:=omega)only[↓wr,seval,wq,t6]
  refine OP (kt:=9) (et:=3) (z:=gi 0) (by kernel_rfl) (by kernel_rfl) (FZ Tryz.underlying9) (id:=q) (c:=c) (m:=M) (k:=fF (aX g cl (aN g i))) (by simp(disch:=omega)only[↓wr,seval,wq]) (by simp(disch:=omega)only[↓wr,seval,wq]) W ?_
  by_cases J:findD (S.map λx=>x.2.2) (aX g cl (aN g i)) < 0
  rw[St J] at cc
  rw[cc]
  simp only[Option.getD_none,Option.isSome_none]
  simp(disch:=omega)only[↓wr,seval,wq,t1,t5,t6,t7,t8,a6]
  refine av.dW ((D8 g N (aX g cl (aN g i)) b8 (by omega) r H3 hB).mono ?_)
  rintro hL H4 ⟨rfl,k4⟩
  have bx:H4 q=.map (b3 gJ M) c:=by rw[k4 q (by rw[W];simp),W]
  have cN:H4 U=.map (b3 (Value.int .i64) A) cA:=by rw[k4 U (by rw[bs];simp),bs]
  have o4:=o3.stay k4
  simp(disch:=omega)only[↓wr,seval,wq,t6]
  refine tH (kt:=9) (et:=3) (by kernel_rfl) (FZ Tryz.underlying9) (id:=q) (c:=c) (m:=M) (k:=fF (aX g cl (aN g i))) (v:=gi S.length) (by simp(disch:=omega)only[↓wr,seval,wq]) (by simp(disch:=omega)only[↓wr,seval,wq]) (by simp(disch:=omega)only[↓wr,seval,wq]) bx ?_
  intro L
  have R:pZ g ((d ++ x :: (t ++ [(r,.emp 1,(⟨aX g cl (aN g i),[]⟩:aL))])).map λx=>x.2.2) (bF (fF (aX g cl (aN g i))) (gi S.length) c M):=by
   have:=pZ.put N G b8 J c
   rw[Sv] at this
   refine this.same ?_
   rw[I];simp
  have K:(H4.set q (.map (b3 gJ (bF (fF (aX g cl (aN g i))) (gi S.length) c M)) L)) q=.map (b3 gJ (bF (fF (aX g cl (aN g i))) (gi S.length) c M)) L:=by simp[View.set]
  have X:(H4.set q (.map (b3 gJ (bF (fF (aX g cl (aN g i))) (gi S.length) c M)) L)) U=.map (b3 (Value.int .i64) A) cA:=by
   simp only[View.set];rw[Sr hd];exact cN
  have o5:=o4.AI bx (o:=.map (b3 gJ (bF (fF (aX g cl (aN g i))) (gi S.length) c M)) L)
  generalize H4.set q (.map (b3 gJ (bF (fF (aX g cl (aN g i))) (gi S.length) c M)) L)=H5 at K X o5 ⊢
  clear bx cN o4 k4
  generalize bF (fF (aX g cl (aN g i))) (gi S.length) c M=M2 at R K
  simp(disch:=omega)only[↓wr,seval,wq,t1,t5,t6,t7,t8,or.cells,or.eL]
  intro q5 b0
  simp(disch:=omega)only[↓wr,seval,wq,bO]
  have ar:∀ b,H5 b≠.dead->b≠q5:=λb hb e=>hb (by rw[e];exact b0)
  refine c8 (o5.fresh b0) (by simp[or.eL,xR]) (by unfold aC;rw[cW];simp;omega) (by unfold aC;rw[cW];simp;omega) ?_
  intro u2 cf fm dv
  have j:=dv.map (o5.fresh (o:=.arr 2 [[r,.emp 1]]) b0).head (b:=q) (c:=L) (es:=b3 gJ M2) (by simp only[View.set];rw[Sr (ar q (by rw[K];simp)),K])
  have F:=dv.map (o5.fresh (o:=.arr 2 [[r,.emp 1]]) b0).head (b:=U) (c:=cA) (es:=b3 (Value.int .i64) A) (by simp only[View.set];rw[Sr (ar U (by rw[X];simp)),X])
  have fs:=(fm.emp (k:=1) (sz:=2)).perm (QU b9)
  have a1:cO g cl at_ (S.map λx=>x.2.2) i=((d ++ x :: (t ++ [(r,.emp 1,(⟨aX g cl (aN g i),[]⟩:aL))])).map λx=>x.2.2).modify at_ (λs=>(⟨s.bb,s.bT ++ [⟨aN g i,(S.length:Int)⟩]⟩:aL)):=by
   rw[cO,Sr aq,St J,Sv]
   congr 1
   rw[I];simp
  have p:bc cf ((u2,2,ez (d ++ x :: (t ++ [(r,.emp 1,(⟨aX g cl (aN g i),[]⟩:aL))]))) :: (kT (d ++ x :: (t ++ [(r,.emp 1,(⟨aX g cl (aN g i),[]⟩:aL))])) ++ iJ g cl (A.filter λy=>decide (((i+1:Nat):Int)<=y.1)))):=by
   have e1:ez (d ++ x :: (t ++ [(r,.emp 1,(⟨aX g cl (aN g i),[]⟩:aL))]))=ez S ++ [[r,.emp 1]]:=by rw[I];simp[ez]
   have e2:kT (d ++ x :: (t ++ [(r,.emp 1,(⟨aX g cl (aN g i),[]⟩:aL))]))=kT S ++ [(r,2,aM (aX g cl (aN g i))),(.emp 1,2,[])]:=by rw[I];simp[kT];rfl
   rw[e1,e2]
   exact fs
  have ea:(d ++ x :: (t ++ [(r,V.emp 1,(⟨aX g cl (aN g i),[]⟩:aL))])).length<=400:=by
   have:=congrArg List.length I
   simp at this ⊢;omega
  generalize (t ++ [(r,V.emp 1,(⟨aX g cl (aN g i),[]⟩:aL))])=B at a1 p R ea
  generalize (S.length:Int)=to at a1 ⊢
  clear fm fs dv K X o5 ar b0
  rotate_left
  rw[Sr J] at cc
  rw[cc]
  simp only[SJ,Option.isSome_some]
  simp(disch:=omega)only[↓wr,seval,wq,t1,t5,t6,t7,t8]
  have a1:cO g cl at_ (S.map λx=>x.2.2) i=((d ++ x :: t).map λx=>x.2.2).modify at_ (λs=>(⟨s.bb,s.bT ++ [⟨aN g i,findD (S.map λx=>x.2.2) (aX g cl (aN g i))⟩]⟩:aL)):=by
   rw[cO,Sr aq,Sr J,<-I]
  have p:=o3.sub (List.Sublist.cons_cons _ (cC.append_left _))
  have R:=G
  have ea:(d ++ x :: t).length<=400:=by rw[<-I];omega
  have j:=W
  have F:=bs
  generalize H3=cf at p j F ⊢
  generalize u=u2 at p t5 ⊢
  rw[I] at p R
  generalize findD (S.map λx=>x.2.2) (aX g cl (aN g i))=to at a1 ⊢
  generalize t=B at a1 p R ea
  generalize M=M2 at j R
  generalize c=L at j
  all_goals (
   obtain⟨id,hu,C⟩:=(show aJ cf u2 2 (ez (d ++ x :: B)) from p.head).sl (by rw[cW];simp;omega)
   rw[cW] at hu
   rw[xU] at p
   simp only[TB,Th] at p
   simp(disch:=omega)only[↓wr,seval,wq,t1,t5,t6,t7,t8,hu,C,bd B]
   refine⟨by simp;omega,by rw[cW];simp;omega,?_⟩
   intro q2 O
   have ar:∀ b,cf b≠.dead->b≠q2:=λb hb e=>hb (by rw[e];exact O)
   simp(disch:=omega)only[↓wr,seval,wq,bO]
   refine c8 ((p.perm DP).fresh O) (by simp[aE]) (by unfold aC;simp[ji];omega) (by unfold aC;simp[ji];omega) ?_
   intro e2 ft ch fx
   have b1:=fx.map ((p.perm DP).fresh (o:=.arr 2 [[gi sv,gi to]]) O).head (b:=q) (c:=L) (es:=b3 gJ M2) (by simp only[View.set];rw[Sr (ar q (by rw[j];simp)),j])
   have b2:=fx.map ((p.perm DP).fresh (o:=.arr 2 [[gi sv,gi to]]) O).head (b:=U) (c:=cA) (es:=b3 (Value.int .i64) A) (by simp only[View.set];rw[Sr (ar U (by rw[F];simp)),F])
   have cS:ft id=.arr 2 (ez (d ++ x :: B)):=((ch.own 1 rfl).live (by rw[hu];rfl)).1
   simp(disch:=omega)only[↓wr,seval,wq,t1,t5,t6,t7,t8,t47,t48,hu,cS,bd B,ch.head.cells,ch.head.eL]
   have fz:(ez (d ++ x :: B)).set at_ [x.1,e2]=ez (d ++ (x.1,e2,(⟨x.2.2.bb,x.2.2.bT ++ [⟨aN g i,to⟩]⟩:aL)) :: B):=by
    rw[<-an];simp[ez]
   have hC:ji (x.2.2.bT ++ [⟨aN g i,to⟩])=ji x.2.2.bT ++ [[gi sv,gi to]]:=by rw[hs];simp[ji,jQ]
   have gd:=ch.perm (.swap _ _ _)
   rw[hu] at gd
   have eb:=((gd.put (es':=ez (d ++ (x.1,e2,(⟨x.2.2.bb,x.2.2.bT ++ [⟨aN g i,to⟩]⟩:aL)) :: B)) (by rw[cW,cW];simp) (by rw[cW])).perm (.swap _ _ _)).perm DP.symm
   rw[<-hC] at eb
   rw[<-hu] at eb
   rw[fz]
   have cV:∀ b c es,ft b=.map es c->b≠id:=λb c es hb e=>by rw[e,cS] at hb;simp at hb
   refine⟨by simp;omega,by rw[cW];simp;omega,aH hk (by omega) ⟨u2,_,M2,L,?_,by rw[xU];simp only[TB,Th];exact eb,?_,?_,?_,t1,by first | rfl | exact t5 | exact hu.symm,t6,t7,t8,t47,rfl⟩⟩
   .rw[br,a1,fl];simp
   .simp only[View.set];rw[Sr (cV U _ _ b2)];exact b2
   .simp only[View.set];rw[Sr (cV q _ _ b1)];exact b1
   .refine R.same ?_
    simp))
abbrev po (g:af) (a:List aL) (q:Nat) (us uf:V):List V:=[V.aT (g.ao.map de),.aT (g.aj.map λs=>[gs s]),.aT (g.rules.map aQ),gi g.start,bJ a,.mp q,us,uf]
def si (H:View) (u:V) (l:List Int):Prop:=u=encI l∨∃ n x d,u=.sl n d l.length 1/\H n=.arr 1 [[gi x]]/\d<=1/\l=[x].drop d
theorem si.j4 {H:View} {u:V} {l:List Int} (h:si H u l):cg H u (encI l):=by
 rcases h with rfl | ⟨n,x,d,rfl,c,f,a⟩
 .exact .tree (bU l)
 .have g:l.length=1 - d:=by rw[a];simp
  have:=cg.sl (off:=d) (len:=l.length) (esz:=1) c (by simp;omega) (by intro e he v b;simp at he;subst he;simp at b;subst b;exact .val _)
  rw[show (List.drop d [[gi x]]).take l.length=bC l by
   rw[a]
   match d,f with
   | 0,_=>rfl
   | 1,_=>rfl] at this
  exact this
theorem si.keep {H H':View} {u:V} {l:List Int} (h:si H u l) (hk:∀ id,H id≠.dead->H' id=H id):si H' u l:=by
 rcases h with rfl | ⟨n,x,d,h1,a,b,c⟩
 .exact .inl rfl
 .exact .inr ⟨n,x,d,h1,by rw[hk n (by rw[a];simp)];exact a,b,c⟩
def nt:SF:=⟨ae [ab [cG 3 1,bQ 4 1],ae [ab [al 5 0 3,ak 6 5,aF 7 .lss 6 0],bf 7 (ae [ab [aa 8 0,ka 9 8,al 10 0 9,al 11 3 10,ak 12 11,((some 13),.op (.arith .sub (.val (.val (.int .i64 (-1)))) (.tmp 12))),((some 14),.op (.bN 1 1 [(.val (.int .i64 0))] [(0,(.tmp 13))])),al 15 1 3,ak 16 15,((some 17),.op (.slice 1 (.tmp 14) (some (.tmp 16)) none)),aa 4 17],.ret])],ab [aa 18 0,ka 19 18,al 20 0 19,al 21 2 20,ak 22 21,al 23 0 3,ak 24 23,aZ 25 3 22 24,al 26 1 25,ak 27 26,al 28 1 3,ak 29 28,((some 30),.op (.slice 1 (.tmp 27) (some (.tmp 29)) none)),aa 4 30],.ret],
 [.tmp 4],31⟩
theorem rJ:aI Tryz.prog 127 [3]=some nt:=by kernel_rfl
def mJ:SF:=⟨ae [ab [cG 3 1],ae [.xK (212,7,9) [] [⟨none,[aa 4 0,ka 5 4,al 6 5 5,ak 7 6,al 8 0 3,ba 9 3 8,((some 10),.op (.old (.lookup 212 (.tmp 7) (.tmp 9) false) 3)),aF 11 .add 10 1,((some 12),.op (.old (.mapEntry 212 (.tmp 7) (.tmp 9)) 0)),dz 13 1 12,(none,.op (.old (.entryStore 212 (.tmp 7) (.tmp 13) (.tmp 11)) 0))]⟩],ab [aa 14 0,ka 15 14,al 16 5 15,ak 17 16,al 18 0 3,ba 19 3 18,((some 20),.op (.old (.lookup 212 (.tmp 17) (.tmp 19) false) 3)),aF 21 .gtr 20 1],bf 21 (.ret)],ae [ab [aa 22 0,ka 23 22,al 24 7 23,ak 25 24,al 26 0 3,al 27 0 26,ak 28 27,aZ 29 1 25 28,ak 30 29,aF 31 .lss 30 0],bf 31 (ab [aa 32 0,ka 33 32,al 34 7 33,ak 35 34,al 36 0 3,al 37 0 36,ak 38 37,aa 39 0,ka 40 39,al 41 6 40,ak 42 41,aP 43 42,aZ 44 1 35 38,cL 1 44 43])],ab [aa 45 0,aa 46 0,ka 47 46,al 48 6 47,ak 49 48,ba 50 5 3,((some 51),.op (.bN 1 5 [(.val (.int .i64 0)),(.val (.int .i64 0)),(.val (.int .i64 0)),(.emp 1),(.emp 1)] [(0,(.tmp 50))])),gD 52 5 72 49 51,ka 53 45,al 54 6 53,cL 1 54 52]],
 [],55⟩
theorem rI:aI Tryz.prog 125 [3,100000]=some mJ:=by kernel_rfl
theorem Hs (g:af) (o:bK (-1 - g.start)) (a:List aL) (q:Nat) (us p:V) (b:Nat) (H:View) (j:H b=.arr 8 [po g a q us p]) (x:aD) (s:b6 g x) :
  au Tryz.prog 127 [.ptr b 0 0,.agg (bq x)] H λr H'=>si H' r (dA g x)/\cw H H' r:=by
 obtain⟨⟨v,w⟩,y,c⟩:=s
 unfold bK at o
 refine au.of mixed rJ ?_
 simp(disch:=omega)only[↓wr,seval,wq,nt,bq]
 obtain⟨d,f⟩:∃ d:Nat,x.dot=d:=⟨x.dot.toNat,by omega⟩
 unfold dA
 unfold bB at c ⊢
 rw[f] at c ⊢
 rw[Tf]
 apply ai.dec<;>intro h1
 .rw[St (by omega)] at c ⊢
  simp at c
  simp(disch:=omega)only[↓wr,seval,wq,bq,j,f]
  intro n t
  simp(disch:=omega)only[↓wr,seval,wq,bq,f,nE (sz:=1) (id:=n) (off:=0) (k:=1) (m:=d) (by omega)]
  refine⟨.inr ⟨n,-1 - g.start,d,?_,by simp[View.set],by omega,rfl⟩,λid h=>?_⟩
  .simp
  .have e:¬ id=n:=by rintro rfl;exact h t
   exact⟨by simp[View.set,e],by simp[owner,Ne.symm e]⟩
 .rw[Sr (by omega)] at c ⊢
  have u:g.rules[x.aw.toNat]?=some (bH g x.aw):=by unfold bH;exact getD_some (by omega)
  have i:=qB (l:=(bH g x.aw).right) (k:=d) (by omega)
  simp(disch:=omega)only[↓wr,seval,wq,bq,j,f,aQ,encI,Ss,u,SD,i]
  exact⟨.inl rfl,λ_ _=>⟨rfl,by simp[owner]⟩⟩
def DH (m:cp uH) (l:List bt) (B:Nat):Prop:=∀ k:uH,∃ n:Nat,(getM m k).getD (gi 0)=gi n/\n<=B/\(n=0↔∀ x∈l,hQ x≠k)
def ep (a:List aL) (l:List bt):List Int:=(List.range a.length).map λ(i:Nat)=>fM l i 0
structure Rr (H:View) (b:Nat) (g:af) (a:List aL) (l:List bt) (B:Nat) (q:Nat) (us uf:V) (S:List dN) (m:cp uH) (c:Nat) (K:List dG):Prop where
 own:bc H ((us,5,S.map df) :: (uf,1,bC (ep a l)) :: (.sl b 0 1 8,8,[po g a q us uf]) :: K)
 map:H q=.map (cP qW m) c
 born:kF m c
 seen:DH m l B
 is:S.map dN.n=l
 ok:∀ y∈S,y.Ok
def eF (H:View) (b:Nat) (g:af) (a:List aL) (l:List bt) (B:Nat) (K:List dG):Prop:=∃ q us uf S m c,Rr H b g a l B q us uf S m c K
theorem uO (i:Int):∀ (l:List bt) (n:Nat),fM l i n < 0->fM l i n = -1
 | [],_,_=>rfl
 | x :: l,n,h=>by
  rw[fM] at h ⊢
  split
  .rename_i e;rw[St e] at h;omega
  .rename_i e;rw[Sr e] at h;exact uO i l (n+1) h
theorem C6 (i:Int):∀ (l:List bt) (n:Nat),fM l i n < (n+l.length:Nat)
 | [],n=>by rw[fM];omega
 | x :: l,n=>by
  rw[fM]
  split
  .simp only[SA];omega
  .have:=C6 i l (n+1)
   simp only[SA];omega
theorem F8 {l:List bt} {x:bt} : l.any (hZ x)=true↔∃ y∈l,hQ y=hQ x:=by
 rw[Uj]
 refine⟨λ⟨y,a,h⟩=>⟨y,a,?_⟩,λ⟨y,a,h⟩=>⟨y,a,?_⟩⟩
 .rw[<-Cu,TA] at h;exact h.symm
 .rw[<-Cu,TA];exact h.symm
theorem DH.put {m:cp uH} {l:List bt} {B c c0:Nat} (h:DH m l B) (x:bt) {n:Nat} (g:(getM m (hQ x)).getD (gi 0)=gi n) (v:V):DH (bF (hQ x) (gi (n+1:Nat)) c0 (bF (hQ x) v c m)) (gH l x) (B+1):=by
 intro k
 obtain⟨j,h1,p,i⟩:=h k
 rw[oO]
 have hm:∀ z,z∈gH l x↔z∈l∨(z=x/\l.any (hZ x)=false):=λz=>by
  unfold gH
  split
  .rename_i e;rw[e];simp
  .rename_i e;simp only[Bool.not_eq_true] at e;rw[e];simp
 by_cases e:k=hQ x
 .subst e
  refine⟨n+1,by simp,?_,⟨λe=>by omega,λe=>?_⟩⟩
  .rw[g] at h1
   simp at h1
   omega
  .exfalso
   by_cases d:l.any (hZ x)=true
   .obtain⟨y,o,hk⟩:=F8.1 d
    exact e y ((hm y).2 (.inl o)) hk
   .exact e x ((hm x).2 (.inr ⟨rfl,by simpa using d⟩)) rfl
 .have f:(k == hQ x)=false:=by simpa using e
  refine⟨j,?_,by omega,i.trans ⟨λb z a=>?_,λb z a=>b z ((hm z).2 (.inl a))⟩⟩
  .rw[f]
   simp only[SU,if_false]
   rw[oO,f]
   simpa using h1
  .rcases (hm z).1 a with a | ⟨rfl,_⟩
   .exact b z a
   .exact Ne.symm e
theorem JE {a:List aL} {l:List bt} {x:bt} : ep a (l ++ [x])=if fM l x.st 0 < 0 then (ep a l).set x.st l.length else ep a l:=by
 unfold ep
 apply List.ext_getElem?
 intro i
 rw[Ss]
 by_cases hi:i < a.length
 .rw[TR hi,SD,Bh,Tt]
  split
  .rename_i b
   by_cases e:x.st=i
   .subst e
    rw[St rfl,St b,List.getElem?_set_self (by simpa using hi)]
   .rw[Sr (by omega)]
    split
    .rw[List.getElem?_set_ne e,Ss,TR hi,SD,uO _ _ _ b]
    .rw[Ss,TR hi,SD,uO _ _ _ b]
  .rename_i c
   split
   .rename_i d
    have e:x.st≠i:=by rintro rfl;exact c d
    rw[List.getElem?_set_ne e,Ss,TR hi,SD]
   .rw[Ss,TR hi,SD]
 .rw[Te (by simpa using hi)]
  split
  .rw[Te (by simpa using hi)];rfl
  .rw[Te (by simpa using hi)];rfl
theorem Mn {H:View} {L:List dG} (h:bc H L) {q c:Nat} {es:List (V × V × Nat)} (a:H q=.map es c) {n k sz:Nat} {xs:List (List V)} (hm:(.sl n 0 k sz,sz,xs)∈L):n≠q:=by
 rintro rfl
 exact h.DT a _ hm rfl
theorem B3 (g:af) (a:List aL) (b:Nat) (l:List bt) (B:Nat) (hB:B < 1000000000000) (hl:l.length<=90000) (x:dN) (hx:x.Ok) (an:x.n.st < a.length) (K:List dG) (H:View) (hW:eF H b g a l B K) :
  au Tryz.prog 125 [.ptr b 0 0,.agg (df x)] H λ_ H'=>eF H' b g a (gH l x.n) (B+1) K:=by
 obtain⟨q,us,uf,S,m,c,w⟩:=hW
 have D:ef Tryz.prog 212=some (218,3):=by kernel_rfl
 have hz:zeroV Tryz.prog 3=some (gi 0):=by kernel_rfl
 have j:=Nl
 have O:=Ln hx
 obtain⟨⟨P,aq,_⟩,⟨Q,ar,_⟩⟩:=And.intro hx.a.eL hx.b.eL
 simp only[df] at O
 obtain⟨n,d,bn,a1⟩:=w.seen (hQ x.n)
 have hb:=w.own.is 2 rfl (by simp)
 have R:=w.map
 have T:¬ b=q:=λe=>by rw[e,R] at hb;simp at hb
 refine au.of mixed rI ?_
 simp(disch:=omega)only[↓wr,seval,wq,mJ,df,P,aq,Q,ar,hb]
 refine OW (kv:=qW) (kt:=218) (et:=3) (z:=gi 0) D hz j (id:=q) (c:=c) (m:=m) (k:=hQ x.n) (by first | rfl | simp(disch:=omega)only[↓wr,seval,wq]) (by first | rfl | (simp(disch:=omega)only[↓wr,seval,wq];rfl)) R ?_
 rw[d]
 simp(disch:=omega)only[↓wr,seval,wq]
 refine P4 (kv:=qW) (kt:=218) (et:=3) (z:=gi 0) D hz j (id:=q) (c:=c) (m:=m) (k:=hQ x.n) (by first | rfl | simp(disch:=omega)only[↓wr,seval,wq]) (by first | rfl | (simp(disch:=omega)only[↓wr,seval,wq];rfl)) R w.born λb1 p J L=>?_
 rw[d] at J L ⊢
 simp(disch:=omega)only[↓wr,seval,wq]
 have ek:V.val (.int .i64 ((n:Int)+1))=gi (n+1:Nat):=by simp
 refine QR (kv:=qW) (id:=q) (c:=p) (b:=b1) (m:=bF (hQ x.n) (gi n) c m) (k:=hQ x.n) (v:=gi (n+1:Nat)) (by first | rfl | simp(disch:=omega)only[↓wr,seval,wq]) (by first | rfl | simp(disch:=omega)only[↓wr,seval,wq]) (by first | exact ek | (simp(disch:=omega)only[↓wr,seval,wq];exact ek)) (by simp[View.set]) J L λc0=>?_
 simp(disch:=omega)only[↓wr,seval,wq]
 refine⟨RV (kv:=qW) (k:=hQ x.n) D hz j R w.born,?_⟩
 rw[set_set]
 have r:=w.seen.put (c:=c) (c0:=c0) x.n d (gi n)
 have M:=J.QE L (gi (n+1:Nat)) c0
 have G:getM (bF (hQ x.n) (gi (n+1:Nat)) c0 (bF (hQ x.n) (gi n) c m)) (hQ x.n)=some (gi (n+1:Nat)):=by rw[oO];simp
 generalize bF (hQ x.n) (gi (n+1:Nat)) c0 (bF (hQ x.n) (gi n) c m)=m2 at r M G ⊢
 have s:=w.own.AI R (o:=.map (cP qW m2) p)
 have i:(H.set q (.map (cP qW m2) p)) q=.map (cP qW m2) p:=by simp[View.set]
 generalize View.set H q (.map (cP qW m2) p)=H2 at s i ⊢
 have E:=s.is 2 rfl (by simp)
 simp only[Sr T,hb]
 simp(disch:=omega)only[↓wr,seval,wq,E]
 refine OW (kv:=qW) (kt:=218) (et:=3) (z:=gi 0) D hz j (id:=q) (c:=p) (m:=m2) (k:=hQ x.n) (by first | rfl | simp(disch:=omega)only[↓wr,seval,wq]) (by first | rfl | (simp(disch:=omega)only[↓wr,seval,wq];rfl)) i ?_
 rw[G,SJ]
 simp(disch:=omega)only[↓wr,seval,wq]
 have I:l.any (hZ x.n)=true↔¬ n=0:=by
  rw[F8,a1]
  constructor
  .rintro⟨y,C,e⟩ h;exact h y C e
  .intro h
   refine TQ λU=>h λy C e=>U ⟨y,C,e⟩
 apply ai.dec<;>intro h1
 .simp(disch:=omega)only[↓wr,seval,wq]
  have t:gH l x.n=l:=St (I.2 (by omega))
  rw[t] at r ⊢
  exact⟨q,us,uf,S,m2,p,s,i,M,r,w.is,w.ok⟩
 have t:gH l x.n=l ++ [x.n]:=Sr (λe=>by have:=I.1 e;omega)
 rw[t] at r ⊢
 have hlen:S.length=l.length:=by rw[<-w.is,Sv]
 have u:(ep a l).length=a.length:=by simp[ep]
 obtain⟨N,W,hF⟩:=(s.own 1 rfl).sl (by simp[u];omega)
 rw[Sv,u] at W
 subst W
 have X:(bC (ep a l)).getD x.n.st []=[gi (fM l x.n.st 0)]:=by
  rw[bC,Sm,Ss,ep,Ss,TR an];rfl
 have br:=C6 x.n.st l 0
 have f:=JE (a:=a) (l:=l) (x:=x.n)
 simp(disch:=omega)only[↓wr,seval,wq,E,hF,X,df]
 refine⟨by omega,by simp[u];omega,?_⟩
 have a6:bZ us=some S.length:=by rw[(s.own 0 rfl).len,Sv]
 apply ai.dec<;>intro U
 focus
  rw[St U] at f
  simp(disch:=omega)only[↓wr,seval,wq,E,hF,X,df,a6]
  refine⟨by omega,by simp[u];omega,?_⟩
  have Y:¬ b=N:=s.Hc 2 1 rfl rfl (by decide)
  have F:=((s.at 1 (by simp)).put (es':=bC ((ep a l).set x.n.st l.length)) (by simp) (by simp[u]))
  rw[<-f] at F
  have A:(H2.set N (.arr 1 (bC (ep a (l ++ [x.n]))))) q=.map (cP qW m2) p:=by
   have:=Mn s i (SQ _ (Ul ..))
   simp[View.set,Ne.symm this,i]
  rw[hlen,show (bC (ep a l)).set x.n.st [gi (l.length:Int)]=bC (ep a (l ++ [x.n])) by rw[f];exact List.map_set.symm]
  simp only[List.getElem_cons_succ,List.getElem_cons_zero,TH,TI] at F
  generalize View.set H2 N (.arr 1 (bC (ep a (l ++ [x.n]))))=H3 at F A ⊢
  replace F:=F.perm (.swap _ _ _)
  simp only[Sr Y,E]
 rotate_left
 focus
  rw[Sr U] at f
  simp(disch:=omega)only[↓wr,seval,wq]
  rw[<-f] at s
  have F:=s
  have A:=i
  clear s i
  generalize H2=H3 at F A ⊢
 all_goals (
  have Z:=F.is 2 rfl (by simp)
  simp(disch:=omega)only[↓wr,seval,wq,Z,df,P,Q]
  intro n1 d
  have bs:¬ b=n1:=by rintro rfl;rw[Z] at d;simp at d
  have a7:¬ q=n1:=by rintro rfl;rw[A] at d;simp at d
  have o4:=F.fresh (o:=.arr 5 [[gi x.n.st,gi x.n.it.aw,gi x.n.it.dot,x.a,x.b]]) d
  simp(disch:=omega)only[↓wr,seval,wq,bO]
  refine c8 o4 O (by unfold aC;simp;omega) (by unfold aC;simp;omega) ?_
  intro u5 H5 o5 l5
  have a8:=o5.is 2 rfl (by simp)
  have bd:H5 q=.map (cP qW m2) p:=l5.map (o4.own 0 rfl) (by simp[View.set,a7,A])
  have cu:=(o5.own 0 rfl).cells
  have ku:=(o5.own 0 rfl).eL
  simp(disch:=omega)only[↓wr,seval,wq,a8,cu,ku]
  have o6:=((o5.at 2 (by simp)).put (es':=[po g a q u5 (.sl N 0 a.length 1)]) rfl rfl)
  have bl:(H5.set b (.arr 8 [po g a q u5 (.sl N 0 a.length 1)])) q=.map (cP qW m2) p:=by
   simp[View.set,Ne.symm T,bd]
  simp only[List.getElem_cons_succ,List.getElem_cons_zero,TH,TI] at o6
  refine⟨q,u5,.sl N 0 a.length 1,S ++ [x],m2,p,?_,bl,M,r,by rw[S0,w.is];rfl,λy C=>?_⟩
  .rw[S0]
   exact o6.perm (List.Perm.trans (.swap _ _ _) (.cons _ (.swap _ _ _)))
  .rcases SS.1 C with C | C
   .exact w.ok y C
   .simp at C;subst C;exact hx)
end Gv
