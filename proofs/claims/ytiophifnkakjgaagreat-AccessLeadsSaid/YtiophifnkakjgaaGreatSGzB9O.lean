/-
  Part 15 of the proof: what the machine does and what the functions answer.
  Conditions: those that each lemma names.
-/
import Derived.Test.YtiophifnkakjgaaGreatSGzB9N
set_option linter.unusedSimpArgs false
set_option linter.unusedVariables false
set_option maxRecDepth 100000
set_option maxHeartbeats 20000000
namespace Gv
open Go Go.Proofs
def fC:SC :=
 af [ae [aS 9 .lss 8 7],bO 9 (.exit 0),.block 1 (af [ae [aa 10 8,aa 5 10],ae [aa 11 1,aa 12 0,aa 13 5,aL 14 2 12 13,bb 15 2 14,((some 16),.call (.tmp 11) [(.tmp 15)])],aZ 16 (af [ae [aa 17 5,aa 4 17],.ret])]),ae [aF 18 .add 8 1,aa 8 18]]
def fK:SF:=⟨af [ae [aP 4 0],af [ae [aa 6 0,aN 7 6,aP 8 0],bR 0 fC],ae [aP 4 (-1)],.ret],
 [.tmp 4],19⟩
theorem jD:aM Tryz.prog 249 []=some fK:=by kernel_rfl
def xz:SF:=⟨af [ae [cE 2 0,bm 3 false],ae [av 4 0 2,al 5 4,al 6 1,aS 7 .eql 5 6,aa 3 7],.ret],
 [.tmp 3],8⟩
theorem AN:aM Tryz.prog 250 [2]=some xz:=by kernel_rfl
def xm:SC :=
 af [ae [aS 24 .lss 23 22],bO 24 (.exit 0),.block 1 (af [ae [aL 25 1 21 23,al 26 25,((some 10),.op (.alloc [(.val (.int .i64 0))])),cy 1 10 26],ae [aa 27 0,aa 28 8,aL 29 2 27 28,av 30 1 29,al 31 30,((some 32),.op (.uq 250 [] [(.tmp 10)])),bf 33 249 [31,32],aa 11 33],af [ae [aa 34 11,aF 35 .lss 34 0],aZ 35 (af [ae [aP 6 0,bm 7 false],.ret])],ae [aa 36 0,aa 37 8,aL 38 2 36 37,av 39 1 38,al 40 39,aa 41 11,aL 42 2 40 41,av 43 1 42,al 44 43,aa 8 44],.region false [⟨none,[aa 45 8,aF 46 .lss 45 0,aa 47 46]⟩,⟨(some (47,false)),[aa 48 8,aa 49 0,aN 50 49,aS 51 .geq 48 50]⟩,⟨none,[cx 52 47 51]⟩],aZ 52 (af [ae [aP 6 0,bm 7 false],.ret])]),ae [aF 53 .add 23 1,aa 23 53]]
def Ab:SF:=⟨af [ae [aP 6 0,bm 7 false],ae [aa 12 1,aa 8 12],af [.region false [⟨none,[aa 13 8,aF 14 .lss 13 0,aa 15 14]⟩,⟨(some (15,false)),[aa 16 8,aa 17 0,aN 18 17,aS 19 .geq 16 18]⟩,⟨none,[cx 20 15 19]⟩],aZ 20 (af [ae [aP 6 0,bm 7 false],.ret])],af [ae [aa 21 2,aN 22 21,aP 23 0],bR 0 xm],ae [aa 54 8,aa 6 54,bm 7 true],.ret],
 [.tmp 6,.tmp 7],55⟩
theorem Dg:aM Tryz.prog 193 []=some Ab:=by kernel_rfl
theorem Le (l:List fi) (g:aI l) (f:FuncId) (cap:List V) (p:fi->Bool) (H:View) (h:∀ x∈l,aw Tryz.prog f (.agg (kI x) :: cap) H λr H'=>r=gb (p x)/\H'=H) :
  aw Tryz.prog 249 [.aW (jM l),.fn f [] cap] H λr H'=>r=gi (du p l 0)/\H'=H:=by
 refine aw.of mixed jD ?_
 unfold aI at g
 simp(disch:=omega)only[↓wr,seval,wq,fK,jM]
 refine aR.up l.length (λi T H'=>H=H'/\du p (l.drop i) i=du p l 0/\T 0=.aW (l.map kI)/\T 1=.fn f [] cap/\T 7=gi l.length/\T 8=gi i) ⟨rfl,rfl,rfl,rfl,rfl,rfl⟩ ?_
 rintro i k T _ hk ⟨rfl,hi,b,h1,c,d⟩
 simp(disch:=omega)only[↓wr,seval,wq,fC,b,h1,c,d]
 apply aj.dec<;>intro j
 .have e:l[i]?=some (l[i]'(by omega)):=Vq (by omega)
  have hm:l[i]'(by omega)∈l:=Vw _
  rw[dS (show i < l.length by omega)] at hi
  generalize l[i]'(by omega)=x at e hm hi
  simp(disch:=omega)only[↓wr,seval,wq,b,h1,c,d,Vt,e,VE,kI]
  have a:=h x hm
  simp only[kI] at a
  refine ax.eA (a.mono ?_)
  rintro r m ⟨rfl,rfl⟩
  simp only[du] at hi
  simp(disch:=omega)only[↓wr,seval,wq]
  apply aj.split<;>intro hp
  .simp(disch:=omega)only[↓wr,seval,wq,b,h1,c,d]
   rw[<-hi,Vu hp]
  .simp(disch:=omega)only[↓wr,seval,wq,b,h1,c,d]
   refine aE hk (by omega) ⟨rfl,?_,b,h1,c,rfl⟩
   rw[Vs (by simp[hp])] at hi
   push_cast;exact hi
 .rw[VN (by omega)] at hi
  simp(disch:=omega)only[↓wr,seval,wq,b,h1,c,d]
  rw[<-hi];rfl
theorem Py (x:fi) (s:Int) (q:Nat) (H:View) (a:H q=.arr 1 [[gi s]]):aw Tryz.prog 250 [.agg (kI x),.ptr q 0 0] H λr H'=>r=gb (decide (x.sym=s))/\H'=H:=by
 refine aw.of mixed AN ?_
 simp(disch:=omega)only[↓wr,seval,wq,xz,kI,a]
 congr 2
theorem GR (s:Int):∀ (l:List fi) (i:Int),0<=i->(du (λe=>decide (e.sym=s)) l i < 0->gx l s = -1)/\(0<=du (λe=>decide (e.sym=s)) l i->∃ (k:Nat) (e:fi),du (λe=>decide (e.sym=s)) l i=i+k/\l[k]?=some e/\gx l s=e.to)
 | [],i,_=>⟨λ_=>rfl,λh=>by simp[du] at h⟩
 | x :: l,i,d=>by
  simp only[du,gx,VH]
  by_cases h:x.sym=s
  .rw[Vu h,Vu h]
   exact⟨λh=>by omega,λ_=>⟨0,x,by simp,rfl,rfl⟩⟩
  .rw[Vs h,Vs h]
   obtain⟨h1,a⟩:=GR s l (i+1) (by omega)
   refine⟨h1,λh=>?_⟩
   obtain⟨k,e,b,k2,c⟩:=a h
   exact⟨k+1,e,by rw[b];push_cast;omega,by simpa using k2,c⟩
theorem Pd {l:List fi} (h:∀ e∈l,bS e.to) (s:Int):bS (gx l s):=by
 induction l with
 | nil=>unfold bS;simp[gx]
 | cons e l a =>
  rw[gx];split
  .exact h e (by simp)
  .exact a λx b=>h x (by simp[b])
theorem Qv (a:List aQ) (_:aI a) (he:∀ s∈a,aI s.b3/\∀ e∈s.b3,bS e.sym/\bS e.to) (fr:Int) (syms:List Int) (t:aI syms):aB Tryz.prog 193 [b4 a,gi fr,encI syms] (.aY [gi (jj a fr syms).1,gb (jj a fr syms).2]):=by
 unfold aI at t
 refine aB.tree (by
  intro v l;simp at l
  rcases l with rfl | rfl | rfl
  .exact qj _
  .exact .val _
  .exact bI _) (y7 (.val _) (.val _)) λH=>?_
 refine aw.of mixed Dg ?_
 unfold jj
 simp(disch:=omega)only[↓wr,seval,wq,Ab,b4,encI]
 apply aj.dec<;>intro h1
 .simp(disch:=omega)only[↓wr,seval,wq]
  rw[Vu (by omega)]
 simp(disch:=omega)only[↓wr,seval,wq,b4]
 apply aj.dec<;>intro u
 .simp(disch:=omega)only[↓wr,seval,wq]
  rw[Vu (by omega)]
 rw[Vs (by omega)]
 simp(disch:=omega)only[↓wr,seval,wq]
 refine aR.up syms.length (λi T H'=>∃ at_:Int,0<=at_/\at_ < a.length/\gW a at_ (syms.drop i)=gW a fr syms/\T 0=b4 a/\T 8=gi at_/\T 21=encI syms/\T 22=gi syms.length/\T 23=gi i) ⟨fr,by omega,by omega,rfl,rfl,rfl,rfl,rfl,rfl⟩ ?_
 rintro i k T H' hk ⟨at_,D,E,hw,t0,t8,t21,t22,t23⟩
 simp(disch:=omega)only[↓wr,seval,wq,xm,t0,t8,t21,t22,t23,encI]
 apply aj.dec<;>intro w
 .have m:syms[i]?=some (syms[i]'(by omega)):=Vq (by omega)
  rw[Wl (show i < syms.length by omega)] at hw
  generalize syms[i]'(by omega)=x at m hw
  have f:a[at_.toNat]?=some (a.getD at_.toNat bJ):=getD_some (by omega)
  obtain⟨b,c⟩:=he _ (VF f)
  rw[gW] at hw
  have g:=Pd (λe h=>(c e h).2) x
  generalize a.getD at_.toNat bJ=S at f b c hw g
  simp(disch:=omega)only[↓wr,seval,wq,t0,t8,t21,t22,t23,encI,Vt,m,VE]
  intro q F
  rw[set_set]
  have d:(H'.set q (.arr 1 [[gi x]])) q=.arr 1 [[gi x]]:=by simp[View.set]
  generalize H'.set q (.arr 1 [[gi x]])=n at d
  simp(disch:=omega)only[↓wr,seval,wq,t0,t8,b4,Vt,f,VE,lB]
  refine ax.eA ((Le S.b3 b 250 [.ptr q 0 0] (λe=>decide (e.sym=x)) n (λe _=>Py e x q n d)).mono ?_)
  rintro r G ⟨rfl,rfl⟩
  obtain⟨i1,i2⟩:=GR x S.b3 0 (by omega)
  unfold aI at b
  simp(disch:=omega)only[↓wr,seval,wq]
  apply aj.dec<;>intro o
  .simp(disch:=omega)only[↓wr,seval,wq]
   rw[<-hw,i1 o,Vs (by omega)]
  .obtain⟨j,e,y,p,z⟩:=i2 (by omega)
   have I:=(VC.1 p).1
   rw[y]
   have A:((0:Int)+(j:Int))=(j:Int):=by omega
   rw[A]
   rw[z] at hw g
   unfold bS at g
   simp(disch:=omega)only[↓wr,seval,wq,t0,t8,b4,Vt,f,VE,lB,jM,p,kI]
   apply aj.dec<;>intro B
   .simp(disch:=omega)only[↓wr,seval,wq]
    rw[<-hw,Vs (by omega)]
   .simp(disch:=omega)only[↓wr,seval,wq,t0,b4]
    apply aj.dec<;>intro C
    .simp(disch:=omega)only[↓wr,seval,wq]
     rw[<-hw,Vs (by omega)]
    .simp(disch:=omega)only[↓wr,seval,wq,t0,t21,t22,t23]
     rw[Vu ⟨by omega,by omega⟩] at hw
     exact aE hk (by omega) ⟨e.to,by omega,by omega,hw,t0,rfl,t21,t22,rfl⟩
 .simp(disch:=omega)only[↓wr,seval,wq,t8]
  rw[VN (by omega),gW] at hw
  rw[<-hw]
section
variable {P:Program} {T:Env} {H:View} {K:V->View->Prop} {w:cL (T,H,K)} {t ty:TypeId}
theorem P9 {d:Operand} {id off len sz bytes s:Nat} {z:List V} {es:List (List V)} (he:oQ P t=some (sz,bytes,z)) (h:ev T d=.sl id off len sz) (hH:H id=.arr s es) (i:off+len<=es.length) (j:len≠0)
  (hk:K (.aY []) (H.set id (.arr sz (dU es off (List.replicate len z))))):iO P (.call { callee:=.builtin .clear,args:=#[d],argTypes:=#[t] }) ty T H K w:=by
 obtain⟨e,ti,b,hi,c,k,f,a,g,rfl,rfl⟩:=jT he
 intro n _
 refine⟨.aY [],.fe id (.arr ti.size (dU es off (List.replicate len z))),[id],?_,hk⟩
 simp only[sI,cd,oper]
 simp only[VU] at a
 simp[vE,b,h,ct,c,j,hH,i,g,k,f,a]
 exact a
end
theorem xN:∀ (xs A B:List (List V)),xs.length<=B.length->dU (A ++ B) A.length xs=A ++ xs ++ B.drop xs.length
 | [],A,B,_=>by simp[dU]
 | x :: r,A,[],h=>by simp at h
 | x :: r,A,b :: B,h=>by
  rw[dU,List.set_append_right _ _ (VA _),Nat.sub_self,List.set_cons_zero]
  have:=xN r (A ++ [x]) B (by simpa using h)
  simpa using this
theorem y4 {id off k m:Nat} (hm:m<=k):cY 2 (.sl id off k 2) (some (gi m)) none=some (.sl id (off+m) (k - m) 2,.none,[]):=by
 simp[cY,bound,asNat,hm]
theorem Gk {id off k m:Nat} (hm:m<=k):cY 2 (.sl id off k 2) none (some (gi m))=some (.sl id off m 2,.none,[]):=by
 simp[cY,bound,asNat,hm]
def fQ:SC :=
 af [af [ae [aa 29 5,aa 30 4,aN 31 30,aS 32 .lss 29 31],bO 32 (.exit 2)],.block 3 (af [ae [aa 35 4,aa 36 5,aL 37 2 35 36,bb 38 2 37,aa 39 4,aa 40 5,aF 41 .sub 40 1,aL 42 2 39 41,bb 43 2 42,((some 44),.op (.old (.binOp .neq 120 (.tmp 38) (.tmp 43) 120) 4))],aZ 44 (af [ae [aa 45 0,aa 46 3,aa 47 4,aa 48 5,aL 49 2 47 48,bb 50 2 49,aL 51 2 45 46,cy 2 51 50],ae [aa 52 3,aF 53 .add 52 1,aa 3 53]])]),ae [aa 33 5,aF 34 .add 33 1,aa 5 34]]
def fN:SC :=
 af [af [ae [aa 10 3,aa 11 0,aN 12 11,aS 13 .lss 10 12],bO 13 (.exit 0)],.block 1 (af [ae [aa 16 0,aa 17 3,aL 18 2 16 17,bb 19 2 18,aa 20 0,aa 21 3,aF 22 .sub 21 1,aL 23 2 20 22,bb 24 2 23,((some 25),.op (.old (.binOp .eql 120 (.tmp 19) (.tmp 24) 120) 4))],aZ 25 (af [ae [aa 26 0,aa 27 3,((some 28),.op (.slice 2 (.tmp 26) (some (.tmp 27)) none)),aa 4 28],af [ae [aP 5 1],bR 2 fQ],ae [aa 54 0,aa 55 3,((some 56),.op (.slice 2 (.tmp 54) (some (.tmp 55)) none)),(none,.op (.old (.call { callee:=.builtin .clear,args:=#[(.tmp 56)],argTypes:=#[103] }) 0))],ae [aa 57 0,aa 58 3,((some 59),.op (.slice 2 (.tmp 57) none (some (.tmp 58)))),aa 2 59],.ret])]),ae [aa 14 3,aF 15 .add 14 1,aa 3 15]]
def gn:SF:=⟨af [ae [bT 2 1],af [ae [aa 6 0,aN 7 6,aF 8 .lss 7 2],aZ 8 (af [ae [aa 9 0,aa 2 9],.ret])],af [ae [aP 3 1],bR 0 fN],ae [aa 60 0,aa 2 60],.ret],
 [.tmp 2],61⟩
theorem j7:aM Tryz.prog 192 []=some gn:=by kernel_rfl
def Ah:SF:=⟨af [ae [bT 2 1],ae [aa 3 0,qN 4 190 [(.tmp 3),(.val (.fn 191 [] []))]],ae [aa 5 0,bf 6 192 [5],aa 2 6],.ret],
 [.tmp 2],7⟩
theorem C2:aM Tryz.prog 124 []=some Ah:=by kernel_rfl
theorem se {l:List aG} {i:Nat} (h:i < l.length):(aT l).getD i []=[gi (l.getD i gQ).az,gi (l.getD i gQ).dot]:=ry (getD_some h)
theorem Me (l:List aG) (i j:Nat) (x d:aG) (hi:i < l.length):(l.set i x).getD j d=if i=j then x else l.getD j d:=by
 rw[D9]
 by_cases e:i=j
 .rw[Vu ⟨e,hi⟩,Vu e]
 .rw[Vs (λh=>e h.1),Vs e]
theorem Ma (l:List aG) (U:l.length<=100000) (u:V) (H:View) (C:aO H u 2 (aT l)):aw Tryz.prog 192 [u] H λr H'=>(∀ id,owner u≠some id->H' id=H id)/\aO H' r 2 (aT (fw l l.length))/\owner r=owner u:=by
 refine aw.cut (K:=λr H'=>(H'=H/\r=u/\fw l l.length=l)∨∃ id rest,u=.sl id 0 l.length 2/\r=.sl id 0 (fw l l.length).length 2/\H'=H.set id (.arr 2 (aT (fw l l.length) ++ rest))) ?_ ?_
 rotate_left
 .rintro r H' (⟨rfl,rfl,e⟩ | ⟨id,rest,rfl,rfl,rfl⟩)
  .exact .inl ⟨λ_ _=>rfl,by rw[e];exact C,rfl⟩
  .refine .inr ⟨id,2,aT (fw l l.length),rest,by simp[View.set],λj L=>?_,?_,rfl⟩
   .rw[set_set]
    simp only[View.set]
    rw[Vs (λe=>L (by rw[e];rfl))]
   .rw[set_set]
    exact .inr ⟨id,by rw[bE],by simp[View.set]⟩
 refine aw.of mixed j7 ?_
 have hlen:ct u=some l.length:=by rw[C.len,bE]
 simp(disch:=omega)only[↓wr,seval,wq,gn,hlen]
 apply aj.dec<;>intro n
 .simp(disch:=omega)only[↓wr,seval,wq]
  left
  try refine⟨rfl,rfl,?_⟩
  match l,n with
  | [],_=>rfl
  | [x],_=>rfl
  | _ :: _ :: _,n=>simp at n;omega
 obtain⟨id,hu,t⟩:=C.sl (by rw[bE];omega)
 rw[bE] at hu
 subst hu
 simp(disch:=omega)only[↓wr,seval,wq]
 refine aR.up (l.length - 1) (λi T H'=>H=H'/\(∀ j,0 < j->j < i+1->l.getD j gQ≠l.getD (j - 1) gQ)/\T 0=.sl id 0 l.length 2/\T 3=gi ((i+1:Nat):Int)) ⟨rfl,λj h1 n=>by omega,rfl,rfl⟩ ?_
 rintro i k T _ hk ⟨rfl,o,t0,t3⟩
 simp(disch:=omega)only[↓wr,seval,wq,fN,t0,t3]
 apply aj.dec<;>intro O
 rotate_left
 .simp(disch:=omega)only[↓wr,seval,wq,t0]
  left
  try refine⟨rfl,rfl,?_⟩
  rw[yL l _ (VA _) (λj h1 n=>o j h1 (by omega)),List.take_length]
 have D:i+1 < l.length:=by omega
 have P:(((i+1:Nat):Int) - 1)=(i:Int):=by omega
 simp(disch:=omega)only[↓wr,seval,wq,t0,t3,t,se D,se (show i < l.length by omega),P]
 refine⟨by omega,by rw[bE];omega,?_⟩
 refine⟨by omega,by rw[bE];omega,?_⟩
 generalize M:l.getD (i+1) gQ=x
 generalize N:l.getD i gQ=y
 refine kg (xs:=#[.int .i64 x.az,.int .i64 x.dot]) (ys:=#[.int .i64 y.az,.int .i64 y.dot]) Tryz.underlying120 (by kernel_rfl) (by kernel_rfl) ?_ ?_ (tE x y) (.inl ⟨rfl,rfl⟩) ?_
 .rfl
 .rfl
 rw[A5]
 simp(disch:=omega)only[↓wr,seval,wq,t0,t3]
 apply aj.dec<;>intro heq
 rotate_left
 .simp(disch:=omega)only[↓wr,seval,wq,t0,t3]
  refine aE hk (by omega) ⟨rfl,λj h1 n=>?_,t0,by push_cast;rfl⟩
  rcases VT j (i+1) with q | q
  .exact o j h1 q
  .have:j=i+1:=by omega
   subst this
   rw[Nat.add_sub_cancel,M,N];exact heq
 have g:fw l (i+1+1)=l.take (i+1):=by
  rw[fw,Vs,yL l (i+1) (by omega) o]
  rw[Nat.add_sub_cancel,M,N]
  simp[heq]
 simp(disch:=omega)only[↓wr,seval,wq,t0,t3,y4 (id:=id) (off:=0) (k:=l.length) (m:=i+1) (by omega)]
 refine aR.up (l.length - (i+1) - 1) (λi2 T H'=>∃ (a:Nat) (cur:List aG),H'=H.set id (.arr 2 (aT cur))/\cur.length=l.length/\i+1<=a/\a<=i+1+i2/\cur.take a=fw l (i+1+(i2+1))/\(∀ j,a<=j->cur.getD j gQ=l.getD j gQ) /\
  T 0=.sl id 0 l.length 2/\T 3=gi a/\T 4=.sl id (i+1) (l.length - (i+1)) 2/\T 5=gi ((i2+1:Nat):Int)) ⟨i+1,l,?_,rfl,VA _,by omega,by rw[g],λ_ _=>rfl,t0,t3,?_,rfl⟩ ?_
 .funext j;simp only[View.set];split
  .rename_i e;rw[e,t]
  .rfl
 .rfl
 clear t0 t3 hk
 rintro i2 k2 W _ v ⟨a,cur,rfl,w,Q,X,c,d,t0,t3,t4,t5⟩
 have b:(H.set id (.arr 2 (aT cur))) id=.arr 2 (aT cur):=by simp[View.set]
 simp(disch:=omega)only[↓wr,seval,wq,fQ,t0,t3,t4,t5]
 apply aj.dec<;>intro E
 .have hp:i+1+(i2+1) < l.length:=by omega
  have R:(((i2+1:Nat):Int) - 1)=(i2:Int):=by omega
  simp(disch:=omega)only[↓wr,seval,wq,t0,t3,t4,t5,b,R,se (l:=cur) (show i+1+(i2+1) < cur.length by omega),se (l:=cur) (show i+1+i2 < cur.length by omega)]
  refine⟨by omega,by rw[bE];omega,?_⟩
  refine⟨by omega,by rw[bE];omega,?_⟩
  rw[d _ (show a<=i+1+(i2+1) by omega),d _ (show a<=i+1+i2 by omega)]
  generalize A:l.getD (i+1+(i2+1)) gQ=f
  generalize F:l.getD (i+1+i2) gQ=B
  refine kg (xs:=#[.int .i64 f.az,.int .i64 f.dot]) (ys:=#[.int .i64 B.az,.int .i64 B.dot]) Tryz.underlying120 (by kernel_rfl) (by kernel_rfl) ?_ ?_ (tE f B) (.inr ⟨rfl,rfl⟩) ?_
  .rfl
  .rfl
  rw[A5]
  simp(disch:=omega)only[↓wr,seval,wq,t0,t3,t4,t5]
  have h:fw l (i+1+(i2+1+1))=if f=B then fw l (i+1+(i2+1)) else fw l (i+1+(i2+1)) ++ [f]:=by
   rw[show i+1+(i2+1+1)=(i+1+(i2+1))+1 by omega,fw,A,show i+1+(i2+1) - 1=i+1+i2 by omega,F]
   by_cases e:f=B
   .rw[Vu e,Vs (by simp[e])]
   .rw[Vs e,Vu (.inr e)]
  apply aj.dec<;>intro he
  .simp(disch:=omega)only[↓wr,seval,wq,t0,t3,t4,t5]
   rw[Vu he] at h
   exact aE v (by omega) ⟨a,cur,rfl,w,Q,by omega,by rw[h];exact c,d,t0,t3,t4,by push_cast;rfl⟩
  .simp(disch:=omega)only[↓wr,seval,wq,t0,t3,t4,t5,b,se (l:=cur) (show i+1+(i2+1) < cur.length by omega)]
   rw[d _ (show a<=i+1+(i2+1) by omega),A]
   have p:(aT cur).getD a []=[gi (cur.getD a gQ).az,gi (cur.getD a gQ).dot]:=se (by omega)
   have G:(aT cur).set a [gi f.az,gi f.dot]=aT (cur.set a f):=by simp[aT,Xm,bQ]
   simp(disch:=omega)only[↓wr,seval,wq,t0,t3,t4,t5,b,p,G]
   rw[set_set]
   rw[Vs he] at h
   refine⟨by omega,by rw[bE];omega,?_⟩
   refine⟨by omega,by rw[bE];omega,?_⟩
   refine aE v (by omega) ⟨a+1,cur.set a f,rfl,by simp[w],by omega,by omega,?_,λj L=>?_,t0,by push_cast;rfl,t4,by push_cast;rfl⟩
   .rw[h,<-c,VP,List.take_set_of_le (VA _),List.getElem?_set_self (by omega)];rfl
   .rw[Me _ _ _ _ _ (by omega),Vs (by omega)]
    exact d j (by omega)
 .have I:i+1+(i2+1)=l.length:=by omega
  rw[I] at c
  have S:l.length - a≠0:=by omega
  have p:a=(fw l l.length).length:=by rw[<-c,Wh];omega
  simp(disch:=omega)only[↓wr,seval,wq,t0,t3,y4 (id:=id) (off:=0) (k:=l.length) (m:=a) (by omega)]
  refine P9 (id:=id) (off:=a) (len:=l.length - a) (sz:=2) (bytes:=16) (s:=2) (z:=[gi 0,gi 0]) (es:=aT cur) (by kernel_rfl) (by simp(disch:=omega)only[↓wr,seval,wq];try rw[Wc]) b (by rw[bE];omega) S ?_
  rw[set_set]
  have J:dU (aT cur) a (List.replicate (l.length - a) [gi 0,gi 0])=aT (fw l l.length) ++ List.replicate (l.length - a) [gi 0,gi 0]:=by
   have h1:=xN (List.replicate (l.length - a) [gi 0,gi 0]) (aT (cur.take a)) (aT (cur.drop a)) (by simp[aT];omega)
   rw[show aT (cur.take a) ++ aT (cur.drop a)=aT cur by rw[aT,aT,<-VW,List.take_append_drop];rfl] at h1
   rw[show (aT (cur.take a)).length=a by rw[bE,Wh];omega] at h1
   rw[h1,c,VN (by simp[aT];omega),WW]
  rw[J]
  simp(disch:=omega)only[↓wr,seval,wq,t0,t3,Gk (id:=id) (off:=0) (k:=l.length) (m:=a) (by omega)]
  right
  exact⟨id,List.replicate (l.length - a) [gi 0,gi 0],rfl,by rw[p],rfl⟩
theorem JV (l:List aG) (h:l.length<=100000) (u:V) (H:View) (c:aO H u 2 (aT l)):aw Tryz.prog 124 [u] H λr H'=>(∀ id,owner u≠some id->H' id=H id)/\aO H' r 2 (aT (zq l))/\owner r=owner u:=by
 refine aw.of mixed C2 ?_
 simp(disch:=omega)only[↓wr,seval,wq,Ah]
 refine ax.eA ((Q4 l (by omega) u H c).mono ?_)
 rintro r d ⟨rfl,k2,e⟩
 simp(disch:=omega)only[↓wr,seval,wq]
 refine ax.eA ((Ma (ez l) (by rw[iH];omega) u d e).mono ?_)
 rintro r i ⟨f,b,g⟩
 simp(disch:=omega)only[↓wr,seval,wq]
 rw[iH] at b
 exact⟨λid a=>by rw[f id a,k2 id a],b,g⟩
def xP:SF:=⟨af [ae [cE 2 0,bT 4 1],af [ae [aa 5 1,aF 6 .eql 5 (-1)],aZ 6 (af [ae [av 7 3 2,al 8 7,((some 9),.op (.arith .sub (.val (.val (.int .i64 (-1)))) (.tmp 8))),((some 10),.op (.cg 1 1 [(.val (.int .i64 0))] [(0,(.tmp 9))])),aa 4 10],.ret])],ae [av 11 2 2,al 12 11,aa 13 1,aL 14 3 12 13,av 15 1 14,al 16 15,aa 4 16],.ret],
 [.tmp 4],17⟩
theorem BD:aM Tryz.prog 244 [2]=some xP:=by kernel_rfl
def zL:SF:=⟨af [ae [cE 2 0,cE 3 1,aP 4 0,bm 5 false],af [ae [bb 7 4 2,av 8 0 3,al 9 8,bf 10 244 [7,9],aa 6 10],ae [av 11 1 3,al 12 11,aa 13 6,aN 14 13,aS 15 .lss 12 14],aZ 15 (af [ae [aa 16 6,av 17 1 3,al 18 17,aL 19 1 16 18,al 20 19,aa 4 20,bm 5 true],.ret])],ae [aP 4 0,bm 5 false],.ret],
 [.tmp 4,.tmp 5],21⟩
theorem Dl:aM Tryz.prog 187 [2,3]=some zL:=by kernel_rfl
def z8:SF:=⟨af [ae [cE 2 0,aP 4 0],af [ae [aa 5 1,aF 6 .lss 5 0],aZ 6 (af [ae [av 7 0 2,al 8 7,aN 9 8,aF 10 .sub 9 1,aa 11 1,aS 12 .sub 10 11,aa 4 12],.ret])],ae [aa 13 1,aa 4 13],.ret],
 [.tmp 4],14⟩
theorem DN:aM Tryz.prog 188 [2]=some z8:=by kernel_rfl
def cT:SF:=⟨af [ae [bT 2 1],af [ae [aa 3 0,((some 4),.op (.nil true 0 (.tmp 3) (.val (.emp 1))))],aZ 4 (af [ae [bT 2 1],.ret])],ae [bT 5 2,aa 6 0,gp 7 2 16 5 6,aa 2 7],.ret],
 [.tmp 2],8⟩
theorem dg:aM Tryz.prog 189 []=some cT:=by kernel_rfl
def sE:SC :=
 af [ae [aS 54 .lss 53 52],bO 54 (.exit 2),.block 3 (af [ae [aa 55 53,aL 56 3 51 53,bb 57 3 56,((some 11),.op (.alloc [(.val (.int .i64 0)),(.emp 1),(.val (.int .i64 0))])),aa 10 55,cy 3 11 57],ae [av 58 0 11,al 59 58,aa 60 8,((some 61),.op (.arith .sub (.val (.val (.int .i64 (-1)))) (.tmp 60))),aS 62 .eql 59 61],aZ 62 (ae [aa 63 5,aa 64 10,((some 65),.op (.build [(.val (.int .i64 0)),(.val (.int .i64 0))] [(0,1,(.tmp 64))])),((some 66),.op (.cg 1 2 [(.val (.int .i64 0)),(.val (.int .i64 0))] [(0,(.tmp 65))])),gp 67 2 16 63 66,aa 5 67])]),ae [aF 68 .add 53 1,aa 53 68]]
def s6:SC :=
 af [af [ae [aa 18 7,aa 19 5,aN 20 19,aS 21 .lss 18 20],bO 21 (.exit 0)],.block 1 (af [ae [bb 25 4 2,aa 26 5,aa 27 7,aL 28 2 26 27,bb 29 2 28,bf 30 187 [25,29],aa 24 30,dJ 31 0 24,dJ 32 1 24,aa 8 31,aa 9 32],af [.region false [⟨none,[aa 33 9,c5 34 33,aa 35 34]⟩,⟨(some (35,false)),[aa 36 8,aF 37 .geq 36 0]⟩,⟨none,[cx 38 35 37,aa 39 38]⟩,⟨(some (39,false)),[aa 40 6,aa 41 8,((some 42),.op (.arith .sub (.val (.val (.int .i64 (-1)))) (.tmp 41))),aL 43 1 40 42,al 44 43]⟩,⟨none,[cx 45 39 44]⟩],aZ 45 (.exit 1)],ae [aa 46 6,aa 47 8,((some 48),.op (.arith .sub (.val (.val (.int .i64 (-1)))) (.tmp 47))),aL 49 1 46 48,(none,.op (.store 1 (.tmp 49) (.val (.val (.bool true)))))],ae [av 50 2 2,al 51 50,aN 52 51,aP 53 0],bR 2 sE]),ae [aa 22 7,aF 23 .add 22 1,aa 7 23]]
def vm:SF:=⟨af [ae [cE 2 0,bT 4 1],ae [aa 12 1,bf 13 189 [12],aa 5 13],ae [av 14 1 2,al 15 14,aN 16 15,((some 17),.op (.make 1 1 [(.val (.bool false))] (.tmp 16) (.tmp 16))),aa 6 17],af [ae [aP 7 0],bR 0 s6],ae [aa 69 5,bf 70 124 [69],aa 4 70],.ret],
 [.tmp 4],71⟩
theorem zI:aM Tryz.prog 123 [2]=some vm:=by kernel_rfl
theorem M8 (g:ai) (d : -100<=g.start/\g.start<=100) (r:Int) (hr : -1<=r/\r < (g.rules.length:Int)):aB Tryz.prog 244 [.agg (ag g),gi r] (encI (bV g r)):=by
 refine aB.of (by
  intro v a;simp at a
  rcases a with rfl | rfl
  .exact bW _ (cw g)
  .exact .val _) ?_
 refine aw.of mixed BD ?_
 unfold bV
 simp(disch:=omega)only[↓wr,seval,wq,xP,ag,encS]
 apply aj.eq<;>intro h1
 .simp(disch:=omega)only[↓wr,seval,wq,ag,encS]
  intro n
  rw[Vu h1]
  rintro c a
  refine dB.fr (jd (l:=[-1 - g.start]) (.inr ⟨n,rfl,?_⟩))
  rw[a];simp[View.set]
 .have b:g.rules[r.toNat]?=some (bY g r):=by unfold bY;exact getD_some (by omega)
  rw[Vs h1]
  generalize bY g r=R at b
  simp(disch:=omega)only[↓wr,seval,wq,ag,encS,Vt,b,VE,aK]
  intro c _
  exact .tree _ (bI R.right)
theorem F4 (g:ai) (c:g.cU) (x:aG) (b:cD g x):aB Tryz.prog 187 [.agg (ag g),.agg (bQ x)] (.aY [gi (bB g x).1,gb (bB g x).2]):=by
 have h1:=M8 g (pe c) x.az b.1
 have d:=eh c b.1
 have e:=b.2
 refine aB.tree (by
  intro v a;simp at a
  rcases a with rfl | rfl
  .exact bW _ (cw g)
  .exact bW _ λv a=>by simp[bQ] at a;rcases a with rfl | rfl <;> exact .val _) (.aY _ λi hi=>by
   match i,hi with
   | 0,_=>exact .val _
   | 1,_=>exact .val _) λH=>?_
 refine aw.of mixed Dl ?_
 simp only[ag,encS,encI] at h1
 unfold bB
 simp(disch:=omega)only[↓wr,seval,wq,zL,ag,encS,bQ]
 refine ax.pure h1 ?_
 generalize bV g x.az=R at e d ⊢
 simp(disch:=omega)only[↓wr,seval,wq,bQ]
 apply aj.dec<;>intro f
 .have h:R[x.dot.toNat]?=some (R.getD x.dot.toNat 0):=getD_some (by omega)
  simp(disch:=omega)only[↓wr,seval,wq,bQ,Vt,h,VE]
  rw[Vs (by omega)]
 .simp(disch:=omega)only[↓wr,seval,wq]
  rw[Vu (by omega)]
theorem PK (g:ai) (b:g.cU) (s:Int) (c : -1000<=s/\s<=1000):aB Tryz.prog 188 [.agg (ag g),gi s] (gi (mD g s)):=by
 have d:=b.au
 refine aB.val (by
  intro v a;simp at a
  rcases a with rfl | rfl
  .exact bW _ (cw g)
  .exact .val _) λH=>?_
 refine aw.of mixed DN ?_
 unfold mD
 simp(disch:=omega)only[↓wr,seval,wq,z8,ag,encS]
 apply aj.dec<;>intro h1
 .simp(disch:=omega)only[↓wr,seval,wq,ag]
  rw[Vu h1]
 .simp(disch:=omega)only[↓wr,seval,wq]
  rw[Vs h1]
theorem bK.U4 {P:Program} {f:FuncId} {h:aD} {u:V} (hu:∀ Z μ hp x,ay Z μ hp u x->∃ a cap,x=.slice a 0 cap/\(a=none->cap=0)) (h1:bK P f [.emp 1] h (.emp 1) h) (n:bK P f [.emp 2] h (.emp 2) h) (o:bK P f [.dO] h (.emp 2) h):bK P f [u] h (.emp 0) h:=by
 refine⟨VA _,λZ μ F w xs j hr d=>?_⟩
 obtain⟨p,q⟩:=j
 obtain⟨x,rfl⟩:∃ x,xs=[x]:=by
  match xs,p with
  | [x],_=>exact⟨x,rfl⟩
 have r:ay Z μ w.heap u x:=q 0 (by simp)
 have one:∀ v,ay Z μ w.heap v x->fU Z μ w.heap [v] [x]:=λv h=>⟨rfl,λi hi=>by
  simp at hi;subst hi;exact h⟩
 have b:∀ k,bK P f [if k=3 then .dO else .emp k] h (if k=3 then .emp 2 else .emp k) h->ay Z μ w.heap (if k=3 then .dO else .emp k) x->Calls P f [x].toArray w λe w'=>∃ x g μ',e=.returned x/\ay g μ' w'.heap (.emp 0) x/\hX g μ' w'.heap (cat h F)/\Ext Z μ w h.length g μ' w'/\(∀ id,id < h.length∨h.length<=id->μ' id=μ id):=by
  intro k hk s
  refine(hk.2 Z μ F w [x] (one _ s) hr d).mono ?_
  rintro e w' ⟨y,g,μ',rfl,l,rest⟩
  refine⟨y,g,μ',rfl,?_,rest⟩
  have:∀ m,ay g μ' w'.heap (.emp m) y->ay g μ' w'.heap (.emp 0) y:=λm h=>by
   cases h with | emp _ a _ _=>exact .emp 0 a (by simp) (by simp)
  split at l <;> exact this _ l
 obtain⟨a,cap,rfl,t⟩:=hu Z μ w.heap x r
 cases a with
 | none =>
  have:=t rfl
  subst this
  exact b 1 (by simpa using h1) (.emp 1 none (by simp) (by simp))
 | some a =>
  cases cap with
  | zero=>exact b 2 (by simpa using n) (.emp 2 (some a) (by simp) (by simp))
  | succ c=>exact b 3 (by simpa using o) (.dO a (c+1))
theorem Ox {Z:Nat->Prop} {μ:Mu} {hp:Array Obj} {k:Nat} {x:Value} (h:ay Z μ hp (.emp k) x):∃ a cap,x=.slice a 0 cap/\(a=none->cap=0):=by
 cases h with | emp _ a _ _=>exact⟨a,0,rfl,λ_=>rfl⟩
theorem MZ {Z:Nat->Prop} {μ:Mu} {hp:Array Obj} {id off esz:Nat} {x:Value} (h:ay Z μ hp (.sl id off 0 esz) x):∃ a cap,x=.slice a 0 cap/\(a=none->cap=0):=by
 rcases FM h with ⟨_,a,e⟩ | ⟨b,o0,cap,c,e,f,d,_⟩
 .exact⟨a,0,e,λ_=>rfl⟩
 .exact⟨_,cap,d,λh=>by simp at h⟩
theorem Iz (u:V) (hu:∀ Z μ hp x,ay Z μ hp u x->∃ a cap,x=.slice a 0 cap/\(a=none->cap=0)) (h:aD):bK Tryz.prog 189 [u] h (.emp 0) h:=by
 have hp:∀ v t,Tree v->Tree t->(∀ H,aw Tryz.prog 189 [v] H λr _=>r=t)->aB Tryz.prog 189 [v] t:=λv t c d h=>aB.tree (by intro x b;simp at b;subst b;exact c) d h
 have h1:=hp (.emp 1) (.emp 1) (.emp 1) (.emp 1) (λH=>by
  refine aw.of mixed dg ?_
  simp(disch:=omega)only[↓wr,seval,wq,cT])
 have e:=hp (.emp 2) (.emp 2) (.emp 2) (.emp 2) (λH=>by
  refine aw.of mixed dg ?_
  simp(disch:=omega)only[↓wr,seval,wq,cT,iW,Xf])
 have f:=hp .dO (.emp 2) .dO (.emp 2) (λH=>by
  refine aw.of mixed dg ?_
  simp(disch:=omega)only[↓wr,seval,wq,cT,qn,iW,Xf])
 exact bK.U4 hu (bK.gh h1 h) (bK.gh e h) (bK.gh f h)
theorem Lq (l:List aG) (d:l.length<=100000) (u:V) (H:View) (b:aO H u 2 (aT l)):aw Tryz.prog 189 [u] H λr H'=>aO H' r 2 (aT l)/\bZ H H' r:=by
 cases l with
 | nil =>
  refine⟨by kernel_rfl,?_⟩
  rintro h rfl
  refine⟨.emp 0,h,Iz u (λZ μ hp x c=>?_) h,.refl _,.nil,.emp⟩
  rcases b with ⟨_,k,rfl⟩ | ⟨n,rfl,_⟩
  .exact Ox c
  .exact MZ c
 | cons x r =>
  obtain⟨id,hu,a⟩:=b.sl (by rw[bE];simp)
  subst hu
  refine aw.of mixed dg ?_
  have he:=jZ (H:=H) id 0 r.length 2 2 (aT (x :: r)) a (by rw[bE];simp)
  rw[Ww,VG (by rw[bE];simp)] at he
  simp only[Vz] at d
  have hlen:(aT (x :: r)).length=r.length+1:=by rw[bE];rfl
  rw[hlen]
  simp(disch:=omega)only[↓wr,seval,wq,cT,he]
  refine eL (es:=[]) (.inl ⟨rfl,2,rfl⟩) (by simp[aT,bQ,WS,aH]) (by unfold aC;rw[hlen];simp;omega) (by unfold aC;rw[hlen];simp;omega) ?_
  intro i m e f
  simp(disch:=omega)only[↓wr,seval,wq]
  refine⟨by simpa using e,λj g=>?_⟩
  exact f j g (by simp[owner])
def dx (ks:List Nat):List aG:=ks.map λ(k:Nat)=>(⟨k,0⟩:aG)
theorem xV {a:List Nat} {n:Nat} (h:a.Nodup) (hk:∀ k∈a,k < n):a.length<=n:=by
 have:=qx a (List.range n) h λx b=>Wy.2 (hk x b)
 simpa using this
theorem OV {l:List Bool} {i:Nat} (h:i < l.length):(bH l).getD i []=[gb (l.getD i false)]:=by
 simp[Vp,h]
structure Mn (g:ai) (l:List aG) (H H':View) (i:Nat) (r su:V) (ks:List Nat) (seen:List Bool):Prop where
 own:bo H' [(r,2,aT (l ++ dx ks)),(su,1,bH seen)]
 f1:bZ H H' r
 f2:bZ H H' su
 nd:ks.Nodup
 kl:∀ k∈ks,k < g.rules.length
 sl:seen.length=g.ak.length
 s1:∀ (n k:Nat) (R:ba),seen.getD n false=true->g.rules[k]?=some R->R.left=n->k∈ks
 s2:∀ (k:Nat) (R:ba),k∈ks->g.rules[k]?=some R->seen.getD R.left.toNat false=true
 cl:∀ x∈l ++ dx ks,mY g l x
 dn:∀ (j:Nat) (x:aG) (s:Int),j < i->(l ++ dx ks)[j]?=some x->bB g x=(s,true)->s < 0->seen.getD (-1 - s).toNat false=true
 il:i<=(l ++ dx ks).length
theorem Mn.len {g:ai} {l:List aG} {H H':View} {i:Nat} {r b:V} {a:List Nat} {seen:List Bool} (h:Mn g l H H' i r b a seen):a.length<=g.rules.length/\(l ++ dx a).length=l.length+a.length:=by
 refine⟨xV h.nd h.kl,by simp[dx]⟩
def Vf (g:ai) (l:List aG) (H:View) (m:Nat) (T:Env) (H':View):Prop:=∃ (i:Nat) (r su:V) (ks:List Nat) (seen:List Bool),m=l.length+g.rules.length - i/\Mn g l H H' i r su ks seen/\T 2=.aJ (ag g) 0/\T 5=r/\T 6=su/\T 7=gi i
theorem IT (g:ai) (X:g.cU) (l:List aG) (hl:∀ x∈l,cD g x) (P:l.length<=10000) (u:V) (H:View) (ho:aO H u 2 (aT l)):aw Tryz.prog 123 [.agg (ag g),u] H λr H'=>aO H' r 2 (aT (cP g l))/\bZ H H' r:=by
 refine aw.of mixed zI ?_
 have ck:=X.rules
 have cu:=X.ak
 simp(disch:=omega)only[↓wr,seval,wq,vm,ag,encS]
 refine ax.eA ((Lq l (by omega) u H ho).mono ?_)
 rintro r H1 ⟨o1,f1⟩
 simp(disch:=omega)only[↓wr,seval,wq,ag,encS]
 refine⟨⟨VA _,by unfold aC;omega,by unfold aC;omega⟩,λY=>?_,λY q z=>?_⟩
 .exact absurd (by have:=X.kC;omega) (show ¬ g.ak.length=0 by have:=X.kC;omega)
 have an:Mn g l H (H1.set q (.arr 1 (List.replicate g.ak.length [gb false]))) 0 r (.sl q 0 g.ak.length 1) [] (List.replicate g.ak.length false):=by
  have e:List.replicate g.ak.length [gb false]=bH (List.replicate g.ak.length false):=by simp
  have b7:bo H1 [(r,2,aT l)]:=⟨λx C=>by simp at C;subst C;exact o1,by
   cases hr:owner r <;> simp[WC,hr]⟩
  have b8:H q=.dead∨H q≠.dead:=by cases H q <;> simp
  have E:H q=.dead:=by
   rcases b8 with h | h
   .exact h
   .have:=(f1 q h).1;rw[z] at this;exact absurd this.symm h
  refine⟨?_,λid c=>?_,λid c=>?_,.nil,by simp,by simp,λn k R h=>?_,by simp,λx C=>.base (by simpa [dx] using C),λj x s h=>by omega,WK _⟩
  .have N:=(b7.new z 1 (List.replicate g.ak.length [gb false])).perm (.swap _ _ _)
   rw[Xi] at N
   rw[e] at N ⊢
   simpa [dx] using N
  .have Q:id≠q:=by rintro rfl;exact c E
   exact⟨by simp only[View.set];rw[Vs Q];exact(f1 id c).1,(f1 id c).2⟩
  .have Q:id≠q:=by rintro rfl;exact c E
   exact⟨by simp only[View.set];rw[Vs Q];exact(f1 id c).1,by simp[owner,Ne.symm Q]⟩
  .simp only[Vp,Wj] at h
   split at h <;> simp at h
 generalize H1.set q (.arr 1 (List.replicate g.ak.length [gb false]))=H2 at an ⊢
 refine aR.intro (Vf g l H) (l.length+g.rules.length) ⟨0,r,_,[],_,by omega,an,rfl,rfl,rfl,rfl⟩ ?_
 clear an o1 f1 z
 rintro m T H' ⟨i,r,J,w,seen,rfl,d,t2,t5,t6,t7⟩
 obtain⟨cv,cA⟩:=d.len
 have b9:ct r=some (l ++ dx w).length:=by rw[d.own.head.len,bE]
 simp(disch:=omega)only[↓wr,seval,wq,s6,t2,t5,t6,t7,b9]
 apply aj.dec<;>intro hc
 rotate_left
 ·
  have hi:i=(l ++ dx w).length:=by have:=d.il;omega
  simp(disch:=omega)only[↓wr,seval,wq,t5]
  refine ax.eA ((JV (l ++ dx w) (by omega) r H' d.own.head).mono ?_)
  rintro S H3 ⟨k3,o3,e3⟩
  simp(disch:=omega)only[↓wr,seval,wq]
  have cc:cP g l=zq (l ++ dx w):=AW X hl (B6 _) (λx C=>d.cl x (qS.1 C)) (λx C=>qS.2 (by simp[C])) (λx C s k R h1 N O h4=>by
   obtain⟨j,hj,e⟩:=WU.1 (qS.1 C)
   have h5:=d.dn j x s (by omega) (by rw[Vq hj,e]) h1 N
   have h6:=d.s1 _ k R h5 O (by omega)
   exact qS.2 (List.mem_append_right _ (VO.2 ⟨k,h6,rfl⟩)))
  rw[cc]
  refine⟨o3,λid c=>?_⟩
  obtain⟨q1,q2⟩:=d.f1 id c
  exact⟨by rw[k3 id q2,q1],by rw[e3];exact q2⟩
 have C:(l ++ dx w)[i]?=some ((l ++ dx w)[i]'(by omega)):=Vq (by omega)
 have a7:=Vw (show i < (l ++ dx w).length by omega)
 have cC:=d.dn
 generalize (l ++ dx w)[i]'(by omega)=x at C a7
 have a8:=d.cl x a7
 have aq:=a8.has hl
 have h1:=F4 g X x aq
 cases F:bB g x with
 | mk s bd =>
 have cI:=wY X aq F
 rw[F] at h1
 obtain⟨id,hu,c⟩:=d.own.head.sl (by rw[bE];omega)
 simp only at hu c
 rw[bE] at hu
 simp only[ag,encS,bQ] at h1
 simp(disch:=omega)only[↓wr,seval,wq,t2,t5,t6,t7,hu,c,ry C,ag,encS]
 refine⟨by omega,by rw[bE];omega,?_⟩
 refine ax.pure h1 ?_
 have skip:(bd=true->s < 0->seen.getD (-1 - s).toNat false=true)->Mn g l H H' (i+1) r J w seen:=λh =>
  ⟨d.own,d.f1,d.f2,d.nd,d.kl,d.sl,d.s1,d.s2,d.cl,λj y t hj I P Y=>by
   rcases VT j i with q | q
   .exact d.dn j y t q I P Y
   .have:j=i:=by omega
    subst this
    rw[C] at I
    simp only[Vr] at I
    subst I
    rw[F] at P
    simp only[Vv] at P
    obtain⟨rfl,rfl⟩:=P
    exact h rfl Y,by omega⟩
 cases bd with
 | false =>
  simp(disch:=omega)only[↓wr,seval,wq,t2,t5,t6,t7]
  exact⟨l.length+g.rules.length - (i+1),by omega,i+1,r,J,w,seen,rfl,skip (by simp),t2,by rw[<-hu];exact t5,t6,rfl⟩
 | true =>
 simp(disch:=omega)only[↓wr,seval,wq]
 apply aj.dec<;>intro Y
 .simp(disch:=omega)only[↓wr,seval,wq,t2,t5,t6,t7]
  exact⟨l.length+g.rules.length - (i+1),by omega,i+1,r,J,w,seen,rfl,skip (λ_ h=>by omega),t2,by rw[<-hu];exact t5,t6,rfl⟩
 have hG:=wO X aq F
 have bl:(-1 - s).toNat < g.ak.length:=by
  unfold dw at hG
  rw[Vs (by omega)] at hG
  simp at hG;omega
 obtain⟨K,A,L⟩:=d.own.tail.head.sl (by simp[d.sl];omega)
 simp only at A L
 rw[Vx,d.sl] at A
 have U:(-1 - s).toNat < seen.length:=by rw[d.sl];exact bl
 simp(disch:=omega)only[↓wr,seval,wq,t6,A,L,OV U]
 refine⟨by omega,by simp[d.sl];omega,?_⟩
 apply aj.split<;>intro N
 .simp(disch:=omega)only[↓wr,seval,wq,t2,t5,t6,t7]
  exact⟨l.length+g.rules.length - (i+1),by omega,i+1,r,J,w,seen,rfl,skip (λ_ _=>N),t2,by rw[<-hu];exact t5,by rw[<-A];exact t6,rfl⟩
 obtain⟨n,P⟩:∃ n:Nat,-1 - s=(n:Int):=⟨(-1 - s).toNat,by omega⟩
 have bn:(-1 - s).toNat=n:=by omega
 rw[bn] at bl U N
 have cf:(bH seen).set n [gb true]=bH (seen.set n true):=by simp[Xm]
 simp(disch:=omega)only[↓wr,seval,wq,t2,t5,t6,t7,A,L,ag,encS,P,OV U,cf]
 refine⟨by omega,by simp[d.sl];omega,?_⟩
 have ar:∀ m,(seen.set n true).getD m false=if n=m then true else seen.getD m false:=λm=>by
  rw[D9]
  by_cases e:n=m
  .rw[Vu ⟨e,U⟩,Vu e]
  .rw[Vs (λh=>e h.1),Vs e]
 have o2:bo (H'.set K (.arr 1 (bH (seen.set n true)))) [(r,2,aT (l ++ dx w)),(J,1,bH (seen.set n true))]:=by
  have O:=d.own.perm (.swap _ _ _)
  rw[A] at O ⊢
  exact(O.put (es':=bH (seen.set n true)) (by simp) (by simp[d.sl])).perm (.swap _ _ _)
 have M:∀ id,H id≠.dead->id≠K:=λid c e=>by
  have:=(d.f2 id c).2
  rw[A,e] at this
  exact this rfl
 have a1:bZ H (H'.set K (.arr 1 (bH (seen.set n true)))) r:=λid c=>⟨by simp only[View.set];rw[Vs (M id c)];exact(d.f1 id c).1,(d.f1 id c).2⟩
 have a6:bZ H (H'.set K (.arr 1 (bH (seen.set n true)))) J:=λid c=>⟨by simp only[View.set];rw[Vs (M id c)];exact(d.f2 id c).1,(d.f2 id c).2⟩
 generalize H'.set K (.arr 1 (bH (seen.set n true)))=H4 at o2 a1 a6 ⊢
 refine aR.up g.rules.length (λk T Z=>∃ (S:V) (f:List Nat),f=w ++ (List.range k).filter (λ(q:Nat)=>decide ((bY g q).left=n))/\bo Z [(S,2,aT (l ++ dx f)),(J,1,bH (seen.set n true))]/\bZ H Z S/\bZ H Z J /\
  T 2=.aJ (ag g) 0/\T 5=S/\T 6=J/\T 7=gi i/\T 8=gi s/\T 51=.aW (g.rules.map aK)/\T 52=gi g.rules.length/\T 53=gi k) ⟨r,w,by simp,o2,a1,a6,t2,by rw[<-hu];exact t5,by rw[<-A];exact t6,t7,rfl,rfl,rfl,rfl⟩ ?_
 clear t2 t5 t6 t7 o2 a1 a6
 rintro k j T5 Z hk ⟨S,f,G,o5,f5,g5,t2,t5,t6,t7,t8,t51,t52,t53⟩
 have br:∀ q,q∈w->¬ (bY g q).left=n:=λq z e=>by
  have hR:g.rules[q]?=some (bY g q):=by unfold bY;exact getD_some (d.kl q z)
  have:=d.s2 q _ z hR
  rw[e] at this
  simp only[V2] at this
  rw[N] at this;simp at this
 have ab:f.Nodup:=by
  rw[G,WO]
  refine⟨d.nd,(List.nodup_range).filter _,λa ha b hb e=>?_⟩
  subst e
  exact br a ha (by simpa using (Wx.1 hb).2)
 simp(disch:=omega)only[↓wr,seval,wq,sE,t2,t5,t6,t7,t8,t51,t52,t53]
 apply aj.dec<;>intro ch
 .have hR:g.rules[k]?=some (bY g k):=by unfold bY;exact getD_some (by omega)
  have bs:∀ q∈f,q < g.rules.length:=λq z=>by
   rw[G] at z
   rcases VM.1 z with h | h
   .exact d.kl q h
   .have:=Wy.1 (Wx.1 h).1;omega
  have cN:=xV ab bs
  have p:w ++ (List.range (k+1)).filter (λ(q:Nat)=>decide ((bY g q).left=n))=if (bY g k).left=n then f ++ [k] else f:=by
   rw[WX,Xl,<-We,<-G]
   by_cases e:(bY g k).left=n <;> simp[e]
  generalize bY g k=R at hR p
  simp(disch:=omega)only[↓wr,seval,wq,t2,t5,t6,t7,t8,t51,t52,t53,Vt,hR,VE,aK]
  intro q z
  rw[set_set]
  have bx:(Z.set q (.arr 3 [[gi R.left,encI R.right,gi R.prec]])) q=.arr 3 [[gi R.left,encI R.right,gi R.prec]]:=by simp[View.set]
  have E:∀ id,H id≠.dead->id≠q:=λid c e=>by
   have:=(f5 id c).1
   rw[e,z] at this
   exact c (by rw[e];exact this.symm)
  have o6:=o5.fresh (o:=.arr 3 [[gi R.left,encI R.right,gi R.prec]]) z
  have f6:bZ H (Z.set q (.arr 3 [[gi R.left,encI R.right,gi R.prec]])) S:=λid c=>⟨by simp only[View.set];rw[Vs (E id c)];exact(f5 id c).1,(f5 id c).2⟩
  have g6:bZ H (Z.set q (.arr 3 [[gi R.left,encI R.right,gi R.prec]])) J:=λid c=>⟨by simp only[View.set];rw[Vs (E id c)];exact(g5 id c).1,(g5 id c).2⟩
  generalize Z.set q (.arr 3 [[gi R.left,encI R.right,gi R.prec]])=H6 at bx o6 f6 g6
  clear o5 f5 g5 z E
  simp(disch:=omega)only[↓wr,seval,wq,t2,t5,t6,t7,t8,bx,P]
  refine⟨rfl,?_⟩
  apply aj.eq<;>intro he
  .simp(disch:=omega)only[↓wr,seval,wq,t2,t5,t6,t7,t8]
   intro q2 b0
   simp(disch:=omega)only[↓wr,seval,wq,bP]
   have D:∀ id,H id≠.dead->id≠q2:=λid c e=>by
    have:=(f6 id c).1
    rw[e,b0] at this
    exact c (by rw[e];exact this.symm)
   refine dp (o6.fresh b0) (by simp[aH]) (by unfold aC;rw[bE];simp[dx];omega) (by unfold aC;rw[bE];simp[dx];omega) ?_
   intro r3 H7 o7 l7
   simp(disch:=omega)only[↓wr,seval,wq,t2,t6,t7,t8,t51,t52,t53]
   rw[Vu he] at p
   have f7:∀ v,bZ H H6 v->(∀ id,owner v=some id->owner S≠some id/\owner r3≠some id)->bZ H H7 v:=λv hv cS id c=>by
    obtain⟨e1,e2⟩:=hv id c
    obtain⟨k1,k2⟩:=l7 id (by simp only[View.set];rw[Vs (D id c),e1];exact c) (f6 id c).2
    refine⟨?_,e2⟩
    rw[k1]
    simp only[View.set]
    rw[Vs (D id c),e1]
   have f8:bZ H H7 r3:=λid c=>by
    obtain⟨e1,e2⟩:=f6 id c
    obtain⟨k1,k2⟩:=l7 id (by simp only[View.set];rw[Vs (D id c),e1];exact c) e2
    refine⟨?_,k2⟩
    rw[k1]
    simp only[View.set]
    rw[Vs (D id c),e1]
   refine aE hk (by omega) ⟨r3,f ++ [k],p.symm,?_,f8,λid c=>⟨(f8 id c).1,(g6 id c).2⟩,t2,rfl,t6,t7,t8,t51,t52,rfl⟩
   have e1:aT (l ++ dx (f ++ [k]))=aT (l ++ dx f) ++ [[gi k,gi 0]]:=by simp[aT,dx,bQ]
   rw[e1]
   exact o7
  .simp(disch:=omega)only[↓wr,seval,wq,t2,t5,t6,t7,t8,t51,t52,t53]
   rw[Vs he] at p
   exact aE hk (by omega) ⟨S,f,p.symm,o6,f6,g6,t2,t5,t6,t7,t8,t51,t52,rfl⟩
 .have cj:k=g.rules.length:=by omega
  subst cj
  simp(disch:=omega)only[↓wr,seval,wq,t2,t5,t6,t7]
  have B:∀ q,q∈f↔q∈w∨(q < g.rules.length/\(bY g q).left=n):=λq=>by
   rw[G,VM,Wx,Wy,VH]
  have b1:∀ (q:Nat) (R:ba),g.rules[q]?=some R->bY g q=R:=λq R h=>by
   unfold bY
   rw[V2,Vp,h];rfl
  have b2:∀ (j:Nat),j<=i->(l ++ dx f)[j]?=(l ++ dx w)[j]?:=λj hj=>by
   rw[G,dx,VW,<-We]
   exact VZ (by simp only[dx] at hc;omega)
  refine⟨l.length+g.rules.length - (i+1),by omega,i+1,S,J,f,seen.set n true,rfl,⟨o5,f5,g5,ab,λq z=>?_,by rw[List.length_set];exact d.sl,λm q R O h4 h5=>?_,λq R O h4=>?_,λy I=>?_,λj y t hj I W Y=>?_,?_⟩,t2,t5,t6,rfl⟩
  .rcases (B q).1 z with h | h
   .exact d.kl q h
   .exact h.1
  .rw[ar] at O
   split at O
   .rename_i e
    subst e
    exact(B q).2 (.inr ⟨(VC.1 h4).1,by rw[b1 q R h4];exact h5⟩)
   .exact(B q).2 (.inl (d.s1 m q R O h4 h5))
  .rw[ar]
   rcases (B q).1 O with h | h
   .split
    .rfl
    .exact d.s2 q R h h4
   .rw[b1 q R h4] at h
    rw[h.2,V2,Vu rfl]
  .rcases VM.1 I with h | h
   .exact d.cl y (List.mem_append_left _ h)
   .obtain⟨q,z,rfl⟩:=VO.1 h
    rcases (B q).1 z with h | h
    .exact d.cl _ (List.mem_append_right _ (VO.2 ⟨q,h,rfl⟩))
    .have hR:g.rules[q]?=some (bY g q):=by unfold bY;exact getD_some h.1
     exact .step a8 F (by omega) hR (by rw[h.2,P])
  .rw[b2 j (by omega)] at I
   rw[ar]
   rcases VT j i with q | q
   .split
    .rfl
    .exact d.dn j y t q I W Y
   .have:j=i:=by omega
    subst this
    rw[C] at I
    simp only[Vr] at I
    subst I
    rw[F] at W
    simp only[Vv,and_true] at W
    subst W
    rw[bn,Vu rfl]
  .rw[G,dx,VW,<-We,VQ]
   simp only[dx] at hc
   omega
def gY (l:List UInt8):Value:=.string ⟨l.toArray⟩
theorem Hz {a b:List UInt8} : ((⟨a.toArray⟩:ByteArray) == ⟨b.toArray⟩)=(a == b):=by
 show (a.toArray == b.toArray)=_
 simp
theorem Hp {P:Program} {kt:TypeId} (h:P.underlying kt=some .string):AJ P kt gY where
 ty:=⟨_,h,λa b=>by simp only[Instr.sameNow,gY,Hz],λa e=>A7 h trivial e 9999 _⟩
 bits:=λa b c=>by
  have:a=b:=by simpa using c
  subst this
  show ((⟨a.toArray⟩:ByteArray) == ⟨a.toArray⟩)=true
  rw[Hz];simp
def pS (l:List aG):List Int:=l.flatMap λx=>[x.az+1,x.dot]
theorem QT (l:List aG):(pS l).length=2 * l.length:=by
 induction l with
 | nil=>rfl
 | cons x l a=>simp only[pS,List.flatMap_cons,VQ,Vz,VS] at a ⊢;omega
theorem Cz:∀ l:List aG,kL ((pS l).map λn=>[gy n])=some (fT l)
 | []=>rfl
 | x :: l=>by
  have a:=Cz l
  simp only[pS,fT,List.flatMap_cons,V4,Wi,VX,kL] at a ⊢
  rw[a];rfl
theorem Ro {x:Int} (h1:0<=x) (c:x < 256):IntKind.wrap .u8 x=x:=by
 unfold IntKind.wrap
 have a:(2:Int) ^ IntKind.u8.bits=256:=by rfl
 have b:IntKind.u8.signed=false:=by rfl
 simp only[a,b,WG,VR,if_false]
 omega
theorem SN {P:Program} {T:Env} {H:View} {K:V->View->Prop} {w:cL (T,H,K)} {t e d ty:TypeId} {x:Operand} {u:V} {xs:List (List V)} {rd:List Nat} {l:List UInt8} {k:Nat} (hu:P.underlying t=some (.slice e)) (he:P.underlying e=some (.int .u8)) (a:P.underlying d=some .string)
  (b:ev T x=u) (c:bC H u=some (xs,rd)) (f:ct u=some k) (g:kL xs=some l) (hk:K (.val (gY l)) H):iO P (.convert t d x) ty T H K w:=by
 intro n _
 have h:k8 P t d=true:=by simp[k8,hu]
 refine⟨.val (gY l),.none,rd,?_,hk⟩
 simp only[sI,cd,oper]
 rw[Vu h,b]
 simp[mV,hu,he,a,c,f,g,gY]
def uU:SC :=
 af [ae [aS 15 .lss 14 13],bO 15 (.exit 0),.block 1 (af [ae [aL 16 2 12 14,bb 17 2 16,((some 7),.op (.alloc [(.val (.int .i64 0)),(.val (.int .i64 0))])),cy 2 7 17],ae [bb 19 4 2,bb 20 2 7,bf 21 187 [19,20],aa 18 21,dJ 22 0 18,dJ 23 1 18,aa 8 22,aa 9 23],ae [aa 24 9],aZ 24 (af [ae [bb 25 4 2,aa 26 8,bf 27 188 [25,26],aa 10 27],ae [aa 28 5,aa 29 10,aa 30 5,aa 31 10,((some 32),.op (.old (.lookup 209 (.tmp 30) (.tmp 31) false) 103)),av 33 0 7,al 34 33,av 35 1 7,al 36 35,aF 37 .add 36 1,((some 38),.op (.build [(.val (.int .i64 0)),(.val (.int .i64 0))] [(0,1,(.tmp 34)),(1,1,(.tmp 37))])),((some 39),.op (.cg 1 2 [(.val (.int .i64 0)),(.val (.int .i64 0))] [(0,(.tmp 38))])),gp 40 2 16 32 39,(none,.op (.old (.mapUpdate 209 (.tmp 28) (.tmp 29) (.tmp 40)) 0))]])]),ae [aF 41 .add 14 1,aa 14 41]]
def yx:SF:=⟨af [ae [cE 2 0,((some 4),.op (.eU (.val (.val (.map none)))))],ae [((some 11),.op (.qq)),aa 5 11],af [ae [aa 12 1,aN 13 12,aP 14 0],bR 0 uU],ae [aa 42 5,aa 4 42],.ret],
 [.tmp 4],43⟩
theorem CK:aM Tryz.prog 122 [2]=some yx:=by kernel_rfl
def yQ:SC :=
 af [ae [aS 9 .lss 8 7],bO 9 (.exit 0),.block 1 (af [ae [aL 10 2 6 8,bb 11 2 10,((some 5),.op (.alloc [(.val (.int .i64 0)),(.val (.int .i64 0))])),cy 2 5 11],ae [aa 12 3,av 13 0 5,al 14 13,aF 15 .add 14 1,((some 16),.op (.conv .u8 (.tmp 15))),av 17 1 5,al 18 17,((some 19),.op (.conv .u8 (.tmp 18))),((some 20),.op (.cg 2 1 [(.val (.int .u8 0))] [(0,(.tmp 16)),(1,(.tmp 19))])),gp 21 1 1 12 20,aa 3 21]]),ae [aF 22 .add 8 1,aa 8 22]]
def Cf:SF:=⟨af [.region false [⟨none,[((some 2),.op (.eU (.val (.val (.string ⟨#[]⟩)))))]⟩],ae [bT 3 1],af [ae [aa 6 0,aN 7 6,aP 8 0],bR 0 yQ],ae [aa 23 3,((some 24),.op (.old (.convert 90 9 (.tmp 23)) 9)),aa 2 24],.ret],
 [.tmp 2],25⟩
theorem Fi:aM Tryz.prog 121 []=some Cf:=by kernel_rfl
theorem Gz (g:ai) (K:g.cU) (l:List aG) (M:∀ x∈l,cD g x) (C:l.length<=10000) (u:V) (H:View) (L:aO H u 2 (aT l)):aw Tryz.prog 121 [u] H λr H'=>r=.val (gY (fT l))/\∀ id,H id≠.dead->H' id=H id:=by
 refine aw.of mixed Fi ?_
 have hlen:ct u=some l.length:=by rw[L.len,bE]
 have N:=K.rules
 simp(disch:=omega)only[↓wr,seval,wq,Cf,hlen]
 refine aR.up l.length (λi T H'=>∃ b:V,aO H' b 1 ((pS (l.take i)).map λn=>[gy n])/\bZ H H' b/\T 3=b/\T 6=u/\T 7=gi l.length/\T 8=gi i) ⟨.emp 1,.nil,.emp,rfl,rfl,rfl,rfl⟩ ?_
 rintro i k T H' hk ⟨b,v,w,t3,t6,t7,t8⟩
 simp(disch:=omega)only[↓wr,seval,wq,yQ,t3,t6,t7,t8]
 apply aj.dec<;>intro O
 .have D:l[i]?=some (l[i]'(by omega)):=Vq (by omega)
  have f:=M _ (Vw (show i < l.length by omega))
  have z:l.take (i+1)=l.take i ++ [l[i]'(by omega)]:=by rw[VP,D];rfl
  generalize l[i]'(by omega)=x at D f z
  have P:=eh K f.1
  have Q:=f.1
  have R:=f.2
  obtain⟨id,hu,a⟩:=L.sl (by rw[bE];omega)
  have A:H' id=.arr 2 (aT l):=by rw[(w id (by rw[a];simp)).1,a]
  rw[bE] at hu
  subst hu
  have E:=QT (l.take i)
  rw[Wh] at E
  simp(disch:=omega)only[↓wr,seval,wq,t3,t6,t7,t8,A,ry D,Ro (x:=x.az+1) (by omega) (by omega),Ro (x:=x.dot) (by omega) (by omega)]
  refine⟨by omega,by rw[bE];omega,?_⟩
  intro q B o F
  obtain⟨G,p⟩:=cb F (by simp)
  rw[Vs G] at p
  have I:∀ j,H j≠.dead->j≠q/\j≠o:=λj c=>by
   have h1:=(w j c).1
   exact⟨λe=>c (by rw[e] at h1 ⊢;rw[<-h1,B]),λe=>c (by rw[e] at h1 ⊢;rw[<-h1,p])⟩
  have J:∀ a0 h a2,aO (((H'.set q a0).set q h).set o a2) b 1 ((pS (l.take i)).map λn=>[gy n]):=λa0 h a2=>v.keep λid a=>by
   have h1:=(v.live a).1
   have s:id≠q:=by rintro rfl;rw[B] at h1;simp at h1
   have t:id≠o:=by rintro rfl;rw[p] at h1;simp at h1
   simp[View.set,s,t]
  have m:∀ a0 h a2 j,H j≠.dead->(((H'.set q a0).set q h).set o a2) j=H j:=λa0 h a2 j c=>by
   obtain⟨s,t⟩:=I j c
   simp[View.set,s,t,(w j c).1]
  have d:∀ (a0 h:c7) (s t:List V),bC (((H'.set q a0).set q h).set o (.arr 1 [s,t])) (.sl o 0 2 1)=some ([s,t],[o]):=λa0 h s t=>by simp[bC,View.set]
  simp(disch:=omega)only[↓wr,seval,wq,d,t3]
  refine eL (J _ _ _) (by simp[aH]) (by unfold aC;simp;omega) (by unfold aC;simp;omega) ?_
  intro S Y U W
  simp(disch:=omega)only[↓wr,seval,wq,t6,t7,t8]
  refine aE hk (by omega) ⟨S,?_,λj c=>?_,rfl,t6,t7,rfl⟩
  .have:(pS (l.take (i+1))).map (λn=>[gy n])=(pS (l.take i)).map (λn=>[gy n]) ++ [[gy (x.az+1)],[gy x.dot]]:=by
    rw[z];simp[pS]
   rw[this];exact U
  .obtain⟨X,k2⟩:=W j (by rw[m _ _ _ j c];exact c) (w j c).2
   exact⟨by rw[X,m _ _ _ j c],k2⟩
 .rw[VG (by omega)] at v
  simp(disch:=omega)only[↓wr,seval,wq,t3]
  have d:∃ rd,bC H' b=some ((pS l).map (λn=>[gy n]),rd):=by
   rcases v with ⟨e,k,rfl⟩ | ⟨n,rfl,C⟩
   .exact⟨[],by rw[e];rfl⟩
   .rcases B:(pS l).map (λn=>[gy n]) with _ | ⟨y,ys⟩
    .exact⟨[],by simp[bC]⟩
    .rw[B] at C
     exact⟨[n],by
      have:=jZ (H:=H') n 0 ys.length 1 1 (y :: ys) C (by simp)
      rw[Vz,this];simp⟩
  obtain⟨rd,d⟩:=d
  refine SN (u:=b) (xs:=(pS l).map λn=>[gy n]) (rd:=rd) (k:=((pS l).map λn=>[gy n]).length) (l:=fT l) Tryz.underlying90 Tryz.underlying5 Tryz.underlying9 (by simp(disch:=omega)only[↓wr,seval,wq];exact t3) d v.len (Cz l) ?_
  simp(disch:=omega)only[↓wr,seval,wq]
  exact λid a=>(w id a).1
theorem yz (g:ai) (p:List aG) (y:aG) (s:Int):bh g (p ++ [y]) s=if bB g y=(s,true) then bh g p s ++ [⟨y.az,y.dot+1⟩] else bh g p s:=by
 unfold bh
 rw[Xl,VW]
 split
 .rename_i h;simp[h]
 .rename_i h;simp[h]
def jc (g:ai) (p:List aG) (A:cF Int):List dM:=A.map λx=>(x.2.1,2,aT (bh g p (aU g x.1.toNat)))
structure tw (g:ai) (p:List aG) (H0 H:View) (q:Nat) (A:cF Int):Prop where
 mp:∃ c,H q=.map (cp (Value.int .i64) A) c
 nd:(A.map (·.1)).Nodup
 own:bo H (jc g p A)
 ne:∀ x∈A,0<=x.1/\bh g p (aU g x.1.toNat)≠[]
 all:∀ k:Nat,bh g p (aU g k)≠[]->((k:Nat):Int)∈A.map (·.1)
 old:∀ id,H0 id≠.dead->H id=H0 id
 q0:H0 q=.dead
 new:∀ x∈A,∀ id,owner x.2.1=some id->H0 id=.dead
theorem getM_none {A:cF Int} {k:Int} : getM A k=none↔k ∉ A.map (·.1):=by
 induction A with
 | nil=>simp[getM]
 | cons x A a =>
  unfold getM at a ⊢
  rw[List.find?_cons]
  by_cases h:k=x.1
  .simp[h]
  .simp only[beq_eq_false_iff_ne.2 h,VX,VJ,not_or]
   rw[a]
   simp[h]
theorem wX {A:cF Int} {k:Int} {v:V} (h:getM A k=some v):∃ a d b,A=a ++ (k,v,b) :: d/\k ∉ a.map (·.1)/\∀ v' c,bL k v' c A=a ++ (k,v',b) :: d:=by
 induction A with
 | nil=>simp[getM] at h
 | cons x A f =>
  unfold getM at h f
  rw[List.find?_cons] at h
  by_cases e:k=x.1
  .simp only[e,beq_self_eq_true,VE,Vr] at h
   refine⟨[],A,x.2.2,by rw[e,<-h];rfl,by simp,λv' c=>?_⟩
   rw[bL,e,beq_self_eq_true,Vu rfl];rfl
  .rw[beq_eq_false_iff_ne.2 e] at h
   obtain⟨a,d,b,rfl,g,i⟩:=f h
   refine⟨x :: a,d,b,rfl,by simp only[VX,VJ,not_or];exact⟨e,g⟩,λv' c=>?_⟩
   rw[bL,beq_eq_false_iff_ne.2 e,i];rfl
theorem QG {A:cF Int} {k:Int} (h:k ∉ A.map (·.1)) (v:V) (c:Nat):bL k v c A=A ++ [(k,v,c)]:=by
 induction A with
 | nil=>rfl
 | cons x A a =>
  simp only[VX,VJ,not_or] at h
  rw[bL,beq_eq_false_iff_ne.2 h.1,a h.2];rfl
theorem tw.skip {g:ai} {p:List aG} {a H:View} {q:Nat} {A:cF Int} (h:tw g p a H q A) {y:aG} (b:(bB g y).2=false):tw g (p ++ [y]) a H q A:=by
 have e:∀ s,bh g (p ++ [y]) s=bh g p s:=λs=>by rw[yz,Vs (λh=>by rw[h] at b;simp at b)]
 have c:jc g (p ++ [y]) A=jc g p A:=by simp only[jc,e]
 exact⟨h.mp,h.nd,by rw[c];exact h.own,λx d=>by rw[e];exact h.ne x d,λk hk=>by rw[e] at hk;exact h.all k hk,h.old,h.q0,h.new⟩
theorem tw.val {g:ai} {p:List aG} {d H:View} {q:Nat} {A:cF Int} (h:tw g p d H q A) (r:Nat):aO H ((getM A r).getD (.emp 1)) 2 (aT (bh g p (aU g r))):=by
 cases c:getM A r with
 | none =>
  have e:=getM_none.1 c
  have:bh g p (aU g r)=[]:=Decidable.byContradiction λa=>e (h.all r a)
  rw[this];exact .nil
 | some v =>
  obtain⟨f,i,b,rfl,_,_⟩:=wX c
  have:=h.own.1 (v,2,aT (bh g p (aU g r))) (by simp[jc])
  exact this
theorem tw.put {g:ai} {p:List aG} {B H:View} {q:Nat} {A:cF Int} (h:tw g p B H q A) {y:aG} {r:Nat} (W:bB g y=(aU g r,true)) {H1:View} {v':V} (X:aO H1 v' 2 (aT (bh g p (aU g r) ++ [⟨y.az,y.dot+1⟩]))) (w:Left H H1 ((getM A r).getD (.emp 1)) v') (c C:Nat) :
  tw g (p ++ [y]) B (H1.set q (.map (cp (Value.int .i64) (bL (r:Int) v' c A)) C)) q (bL (r:Int) v' c A):=by
 obtain⟨c0,O⟩:=h.mp
 have hr:bh g (p ++ [y]) (aU g r)=bh g p (aU g r) ++ [⟨y.az,y.dot+1⟩]:=by rw[yz,Vu W]
 have i:∀ x:Int × V × Nat,0<=x.1->x.1≠r->bh g (p ++ [y]) (aU g x.1.toNat)=bh g p (aU g x.1.toNat):=λx Q d=>by
  rw[yz,Vs]
  intro e
  rw[W] at e
  simp only[Vv,and_true] at e
  have h1:=wb g r
  rw[e,wb] at h1
  omega
 have D:owner ((getM A r).getD (.emp 1))≠some q:=λe=>by
  have:=((h.val r).live e).1
  rw[O] at this;simp at this
 have E:H1 q≠.dead/\owner v'≠some q:=by
  obtain⟨k1,k2⟩:=w q (by rw[O];simp) D
  exact⟨by rw[k1,O];simp,k2⟩
 have hold:∀ id,B id≠.dead->id≠q/\owner ((getM A r).getD (.emp 1))≠some id:=λid f=>by
  refine⟨λe=>f (by rw[e];exact h.q0),λe=>?_⟩
  cases t:getM A r with
  | none=>rw[t] at e;simp[owner] at e
  | some v =>
   rw[t] at e
   obtain⟨s,l,b,rfl,_,_⟩:=wX t
   exact f (h.new (r,v,b) (by simp) id e)
 have m:∀ id,B id≠.dead->(H1.set q (.map (cp (Value.int .i64) (bL (r:Int) v' c A)) C)) id=B id:=λid f=>by
  simp only[View.set]
  rw[Vs (hold id f).1,(w id (by rw[h.old id f];exact f) (hold id f).2).1,h.old id f]
 have F:∀ id,owner v'=some id->B id=.dead:=λid e=>WL λf=>(w id (by rw[h.old id f];exact f) (hold id f).2).2 e
 have u:∀ {L:List dM},bo H1 L->(∀ x∈L,owner x.1≠some q)->bo (H1.set q (.map (cp (Value.int .i64) (bL (r:Int) v' c A)) C)) L:=λY d=>⟨λx G=>(Y.1 x G).other (d x G),Y.2⟩
 have j:∀ x∈A,owner x.2.1≠some q:=λx d=>h.own.Ft O _ (VO.2 ⟨x,d,rfl⟩)
 cases t:getM A r with
 | none =>
  have P:=getM_none.1 t
  rw[t] at w
  rw[QG P] at *
  have R:jc g (p ++ [y]) (A ++ [((r:Int),v',c)])=jc g p A ++ [(v',2,aT (bh g p (aU g r) ++ [⟨y.az,y.dot+1⟩]))]:=by
   simp only[jc,VW,VX,W6,V2,hr]
   congr 1
   refine Wz λx d=>?_
   rw[i x (h.ne x d).1 (λe=>P (VO.2 ⟨x,d,e⟩))]
  refine⟨⟨C,by simp[View.set]⟩,?_,?_,λx d=>?_,λk hk=>?_,m,h.q0,λx d id e=>?_⟩
  .rw[VW,WO]
   refine⟨h.nd,by simp,λa ha b Z e=>?_⟩
   simp at Z;subst Z;subst e;exact P ha
  .rw[R]
   have S:bo H1 ((v',2,aT (bh g p (aU g r) ++ [⟨y.az,y.dot+1⟩])) :: jc g p A):=(h.own.emp (k:=1) (sz:=2)).left (by simpa using X) w
   refine u (S.perm (List.perm_append_comm (l₁:=[_]))) λx d=>?_
   rcases VM.1 d with d | d
   .obtain⟨z,I,rfl⟩:=VO.1 d
    exact j z I
   .simp at d;subst d;exact E.2
  .rcases VM.1 d with d | d
   .rw[i x (h.ne x d).1 (λe=>P (VO.2 ⟨x,d,e⟩))];exact h.ne x d
   .simp at d;subst d;simp[hr]
  .rw[VW,VM]
   by_cases e:k=r
   .right;simp[e]
   .left
    refine h.all k ?_
    have:=i ((k:Int),.any,0) (by simp) (by simp only;omega)
    simp only[V2] at this
    rw[<-this];exact hk
  .rcases VM.1 d with d | d
   .exact h.new x d id e
   .simp at d;subst d;exact F id e
 | some v =>
  obtain⟨s,l,b,rfl,T,J⟩:=wX t
  rw[t] at w
  rw[J] at *
  have K:=h.nd
  rw[VW,VX,WO] at K
  have U:(r:Int) ∉ l.map (·.1):=(Wo.1 K.2.1).1
  have M:∀ x∈s,x.1≠r:=λx d e=>T (VO.2 ⟨x,d,e⟩)
  have N:∀ x∈l,x.1≠r:=λx d e=>U (VO.2 ⟨x,d,e⟩)
  have n:∀ x∈s,x∈s ++ ((r:Int),v,b) :: l:=λx d=>List.mem_append_left _ d
  have o:∀ x∈l,x∈s ++ ((r:Int),v,b) :: l:=λx d=>List.mem_append_right _ (VL _ d)
  have R:jc g (p ++ [y]) (s ++ ((r:Int),v',b) :: l)=jc g p s ++ (v',2,aT (bh g p (aU g r) ++ [⟨y.az,y.dot+1⟩])) :: jc g p l:=by
   simp only[jc,VW,VX,V2,hr]
   congr 1
   .refine Wz λx d=>?_
    rw[i x (h.ne x (n x d)).1 (M x d)]
   .congr 1
    refine Wz λx d=>?_
    rw[i x (h.ne x (o x d)).1 (N x d)]
  have e0:jc g p (s ++ ((r:Int),v,b) :: l)=jc g p s ++ (v,2,aT (bh g p (aU g r))) :: jc g p l:=by
   simp only[jc,VW,VX,V2]
  refine⟨⟨C,by simp[View.set]⟩,by simpa using h.nd,?_,λx d=>?_,λk hk=>?_,m,h.q0,λx d id e=>?_⟩
  .rw[R]
   have Q:=h.own
   rw[e0] at Q
   have S:bo H1 ((v',2,aT (bh g p (aU g r) ++ [⟨y.az,y.dot+1⟩])) :: (jc g p s ++ jc g p l)):=(Q.perm Xt).left X w
   refine u (S.perm Xt.symm) λx d=>?_
   rcases VM.1 d with d | d
   .obtain⟨z,I,rfl⟩:=VO.1 d
    exact j z (n z I)
   .rcases VJ.1 d with rfl | d
    .exact E.2
    .obtain⟨z,I,rfl⟩:=VO.1 d
     exact j z (o z I)
  .rcases VM.1 d with d | d
   .rw[i x (h.ne x (n x d)).1 (M x d)];exact h.ne x (n x d)
   .rcases VJ.1 d with rfl | d
    .simp[hr]
    .rw[i x (h.ne x (o x d)).1 (N x d)];exact h.ne x (o x d)
  .by_cases e:k=r
   .subst e;simp
   .have:=i ((k:Int),.any,0) (by simp) (by simp only;omega)
    simp only[V2] at this
    rw[this] at hk
    have:=h.all k hk
    simpa using this
  .rcases VM.1 d with d | d
   .exact h.new x (n x d) id e
   .rcases VJ.1 d with rfl | d
    .exact F id e
    .exact h.new x (o x d) id e
theorem tw.fresh {g:ai} {p:List aG} {e H:View} {q:Nat} {A:cF Int} (h:tw g p e H q A) {n:Nat} (b:H n=.dead) (o:c7):tw g p e (H.set n o) q A:=by
 obtain⟨c,d⟩:=h.mp
 have f:q≠n:=by rintro rfl;rw[b] at d;simp at d
 refine⟨⟨c,by simp[View.set,f,d]⟩,h.nd,h.own.fresh b,h.ne,h.all,λid a=>?_,h.q0,h.new⟩
 have i:id≠n:=by rintro rfl;rw[h.old id a] at b;exact a b
 simp[View.set,i,h.old id a]
theorem PC (g:ai) (w:g.cU) (l:List aG) (hl:∀ x∈l,cD g x) (L:l.length<=10000) (u:V) (H:View) (ho:aO H u 2 (aT l)):aw Tryz.prog 122 [.agg (ag g),u] H λr H'=>∃ q A,r=.mp q/\tw g l H H' q A:=by
 refine aw.of mixed CK ?_
 have hlen:ct u=some l.length:=by rw[ho.len,bE]
 have hT:=w.au
 have hN:=w.ak
 simp(disch:=omega)only[↓wr,seval,wq,yx,ag,encS,hlen]
 intro q M
 have N:tw g [] H (H.set q (.map [] 0)) q []:=⟨⟨0,by simp[View.set,cp]⟩,by simp,⟨by simp[jc],by simp[jc]⟩,by simp,λk hk=>absurd rfl hk,λid j=>by
  have:id≠q:=by rintro rfl;exact j M
  simp[View.set,this],M,by simp⟩
 generalize H.set q (.map [] 0)=H1 at N
 try simp(disch:=omega)only[↓wr,seval,wq]
 refine aR.up l.length (λi T H'=>∃ A,tw g (l.take i) H H' q A/\T 2=.aJ (ag g) 0/\T 5=.mp q/\T 12=u/\T 13=gi l.length/\T 14=gi i) ⟨[],N,rfl,rfl,rfl,rfl,rfl⟩ ?_
 clear N M
 rintro i k T H' hk ⟨A,D,t2,t5,t12,t13,t14⟩
 simp(disch:=omega)only[↓wr,seval,wq,uU,t2,t5,t12,t13,t14]
 apply aj.dec<;>intro hc
 .have O:l[i]?=some (l[i]'(by omega)):=Vq (by omega)
  have a:=hl _ (Vw (show i < l.length by omega))
  have B:l.take (i+1)=l.take i ++ [l[i]'(by omega)]:=by rw[VP,O];rfl
  generalize l[i]'(by omega)=x at O a B
  have h1:=F4 g w x a
  cases b:bB g x with
  | mk s P =>
  have Q:=wY w a b
  rw[b] at h1
  have an:=eh w a.1
  have aq:=a.2
  obtain⟨id,hu,j⟩:=ho.sl (by rw[bE];omega)
  have p:H' id=.arr 2 (aT l):=by rw[D.old id (by rw[j];simp),j]
  rw[bE] at hu
  subst hu
  simp only[ag,encS,bQ] at h1
  simp(disch:=omega)only[↓wr,seval,wq,t2,t5,t12,t13,t14,p,ry O]
  refine⟨by omega,by rw[bE];omega,?_⟩
  intro E F
  rw[set_set]
  have d:(H'.set E (.arr 2 [[gi x.az,gi x.dot]])) E=.arr 2 [[gi x.az,gi x.dot]]:=by simp[View.set]
  have f:=D.fresh F (.arr 2 [[gi x.az,gi x.dot]])
  generalize H'.set E (.arr 2 [[gi x.az,gi x.dot]])=R at d f
  clear D F p
  try simp(disch:=omega)only[↓wr,seval,wq,t2,t5,d,ag,encS]
  refine ax.pure h1 ?_
  cases P with
  | false =>
   simp(disch:=omega)only[↓wr,seval,wq,t2,t5,t12,t13,t14]
   exact aE hk (by omega) ⟨A,by rw[B];exact f.skip (by rw[b]),t2,t5,t12,t13,rfl⟩
  | true =>
  have hh:=wO w a b
  obtain⟨r1,r2⟩:=I3 hh
  obtain⟨r3,r4⟩:=F3 r1
  obtain⟨r,hr⟩:∃ r:Nat,mD g s=r:=⟨(mD g s).toNat,by omega⟩
  rw[hr,V2] at r4
  have S:=PK g w s Q
  rw[hr] at S
  simp only[ag,encS] at S
  simp(disch:=omega)only[↓wr,seval,wq,t2,t5,ag,encS]
  refine ax.pure S ?_
  obtain⟨c,U⟩:=f.mp
  simp(disch:=omega)only[↓wr,seval,wq,t5]
  refine zu (kt:=3) (et:=103) (z:=.emp 1) (by kernel_rfl) (by kernel_rfl) (k9 .i64 Tryz.underlying3) (id:=q) (c:=c) (m:=A) (k:=(r:Int)) (by simp(disch:=omega)only[↓wr,seval,wq]) (by simp(disch:=omega)only[↓wr,seval,wq]) U ?_
  have ar:=f.val r
  have ab:∀ n o,R n=.dead->(R.set n o) E=.arr 2 [[gi x.az,gi x.dot]]:=λn o L=>by
   have:E≠n:=by rintro rfl;rw[d] at L;simp at L
   simp[View.set,this,d]
  try simp(disch:=omega)only[↓wr,seval,wq,d]
  intro W X
  have C:=f.fresh X (.arr 2 [[gi x.az,gi (x.dot+1)]])
  have t:=C.val r
  have Y:bC (R.set W (.arr 2 [[gi x.az,gi (x.dot+1)]])) (.sl W 0 1 2)=some ([[gi x.az,gi (x.dot+1)]],[W]):=by simp[bC,View.set]
  simp(disch:=omega)only[↓wr,seval,wq,Y]
  have Z:=sT (g:=g) (l:=l.take i) (s:=aU g r)
  rw[Wh] at Z
  refine eL t (by simp[aH]) (by unfold aC;rw[bE];simp;omega) (by unfold aC;rw[bE];simp;omega) ?_
  intro v' H6 o6 l6
  obtain⟨K,h⟩:=C.mp
  have G:owner ((getM A (r:Int)).getD (.emp 1))≠some q:=λe=>by
   have:=(t.live e).1
   rw[h] at this;simp at this
  have I:H6 q=.map (cp (Value.int .i64) A) K:=by
   rw[(l6 q (by rw[h];simp) G).1,h]
  simp(disch:=omega)only[↓wr,seval,wq,t5]
  refine vi (kt:=3) (et:=103) (by kernel_rfl) (k9 .i64 Tryz.underlying3) (id:=q) (c:=K) (m:=A) (k:=(r:Int)) (v:=v') (by simp(disch:=omega)only[↓wr,seval,wq]) (by simp(disch:=omega)only[↓wr,seval,wq]) (by simp(disch:=omega)only[↓wr,seval,wq]) I ?_
  intro c'
  simp(disch:=omega)only[↓wr,seval,wq,t2,t5,t12,t13,t14]
  have J:=C.put (y:=x) (r:=r) (by rw[b,r4]) (H1:=H6) (v':=v') (by
   have e:aT (bh g (l.take i) (aU g r) ++ [⟨x.az,x.dot+1⟩])=aT (bh g (l.take i) (aU g r)) ++ [[gi x.az,gi (x.dot+1)]]:=by simp[aT,bQ]
   rw[e];exact o6) l6 K c'
  exact aE hk (by omega) ⟨bL (r:Int) v' K A,by rw[B];exact J,t2,t5,t12,t13,rfl⟩
 .rw[VG (by omega)] at D
  simp(disch:=omega)only[↓wr,seval,wq,t5]
  exact⟨q,A,rfl,D⟩
theorem ax.still {P:Program} {f:FuncId} {vs:List V} {H:View} {K:V->View->Prop} {w:cL (H,K)} {a:V->View->Prop} (b:aw P f vs H a) (c:∀ r H',a r H'->∀ id,H id≠.dead->H' id=H id) (hk:∀ r H',a r H'->K r H'):ax P true f vs H K w:=by
 unfold ax
 simp only[if_true]
 exact(b.mono λr H' h=>⟨c r H' h,hk r H' h⟩).LP
theorem bo.join {H:View} {L M:List dM} (h:bo H L) (k:bo H M) (g:∀ x∈L,∀ y∈M,∀ id,owner x.1=some id->owner y.1≠some id):bo H (L ++ M):=by
 refine⟨λx c=>?_,?_⟩
 .rcases VM.1 c with c | c
  .exact h.1 x c
  .exact k.1 x c
 .rw[List.filterMap_append,WO]
  refine⟨h.2,k.2,λa i b j e=>?_⟩
  obtain⟨x,c,d⟩:=WH.1 i
  obtain⟨y,l,f⟩:=WH.1 j
  subst e
  exact g x c y l a d f
theorem bo.sub {H:View} {L M:List dM} (h:bo H L) (a:M.Sublist L):bo H M :=
 ⟨λx b=>h.1 x (a.subset b),h.2.sublist (a.filterMap _)⟩
theorem MW {l:List aG} (g:cm l) (i:l.length<=100000) (u:V) (H:View) (b:aO H u 2 (aT l)):aw Tryz.prog 124 [u] H λr H'=>H=H'/\aO H r 2 (aT l)/\(l≠[]->r=u):=by
 refine(JV l i u H b).mono ?_
 rintro r H' ⟨j,k2,a⟩
 rw[Lb g] at k2
 have e:H'=H:=by
  funext id
  by_cases h:owner u=some id
  .rw[(b.live h).1,(k2.live (by rw[a];exact h)).1]
  .exact j id h
 subst e
 refine⟨rfl,k2,λc=>?_⟩
 have hp:0 < (aT l).length:=by rw[bE];exact Xr.2 c
 obtain⟨n,d,_⟩:=b.sl hp
 obtain⟨m,f,_⟩:=k2.sl hp
 rw[d,f] at a
 simp only[owner,Vr] at a
 rw[d,f,a]
def rD (g:ai) (out:List aQ) (M:cF (List UInt8)):Prop:=∀ l:List aG,(∀ x∈l,cD g x)->getM M (fT l)=if findD out l < 0 then none else some (gi (findD out l))
theorem Ea:∀ {a b:List aQ},a.map aQ.bj=b.map aQ.bj->∀ k,findD a k=findD b k
 | [],[],_,_=>rfl
 | [],_ :: _,h,_=>by simp at h
 | _ :: _,[],h,_=>by simp at h
 | s :: a,t :: b,h,k=>by
  simp only[VX,List.cons.injEq] at h
  rw[findD,findD,h.1,Ea h.2 k]
theorem CH:∀ (a:List aQ) (s:aQ) (k:List aG),findD (a ++ [s]) k=if 0<=findD a k then findD a k else if s.bj=k then (a.length:Int) else -1
 | [],s,k=>by by_cases e:s.bj=k <;> simp[findD,e]
 | t :: a,s,k=>by
  have b:=CH a s k
  have h1:=sK a k
  rw[V4,findD,findD,b]
  simp only[Vz]
  push_cast
  by_cases e:t.bj=k <;> by_cases c:s.bj=k <;> by_cases d:0<=findD a k <;> simp only[e,c,d,if_true,if_false] <;> (repeat' split) <;> omega
theorem rD.same {g:ai} {a b:List aQ} {M:cF (List UInt8)} (h:rD g a M) (e:a.map aQ.bj=b.map aQ.bj):rD g b M:=λl c=>by
 rw[h l c,Ea e]
theorem rD.put {g:ai} (d:g.cU) {out:List aQ} {M:cF (List UInt8)} (h:rD g out M) {k:List aG} (hk:∀ x∈k,cD g x) (i:findD out k < 0) (c:Nat):rD g (out ++ [⟨k,[]⟩]) (bL (fT k) (gi out.length) c M):=λl a=>by
 have h1:=CH out ⟨k,[]⟩ l
 have j:=sK out l
 rw[pT]
 by_cases e:l=k
 .subst e
  rw[Vs (by omega),Vu rfl] at h1
  rw[h1,beq_self_eq_true,Vu rfl,Vs (by omega)]
 .have f:(fT l == fT k)=false:=beq_eq_false_iff_ne.2 λh=>e (Il d a hk h)
  rw[f,h l a]
  simp only[VR,if_false]
  by_cases b:0<=findD out l
  .rw[Vu b] at h1
   rw[h1]
  .rw[Vs b,Vs (λh=>e h.symm)] at h1
   rw[h1,Vu (by omega),Vu (by omega)]
theorem Hk {A:cF Int} {k:Nat} {v:V} (d:(A.map (·.1)).Nodup) (h:getM A (k:Int)=some v):∃ b,(A.filter (λx=>decide (((k:Nat):Int)<=x.1))).Perm (((k:Int),v,b) :: A.filter (λx=>decide (((k+1:Nat):Int)<=x.1))):=by
 obtain⟨g,f,b,rfl,a,_⟩:=wX h
 rw[VW,VX,WO] at d
 have c:(k:Int) ∉ f.map (·.1):=(Wo.1 d.2.1).1
 have e:∀ B:cF Int,(k:Int) ∉ B.map (·.1)->B.filter (λx=>decide (((k:Nat):Int)<=x.1))=B.filter (λx=>decide (((k+1:Nat):Int)<=x.1)):=λB i=>List.filter_congr λx j=>by
  have:x.1≠(k:Int):=λe=>i (VO.2 ⟨x,j,e⟩)
  rw[decide_eq_decide];omega
 refine⟨b,?_⟩
 rw[Xl,Xl,List.filter_cons,List.filter_cons,Vu (by simp),Vs (by simp only[VH];push_cast;omega),e g a,e f c]
 exact Xt
theorem T6 {α:Type} {e u r:α} {S X Y:List α} (h:X.Perm (r :: Y)):(e :: u :: (S ++ X)).Perm (u :: ((S ++ [r,e]) ++ Y)):=by
 refine(List.Perm.swap _ _ _).trans (.cons _ ?_)
 rw[We]
 refine((h.append_left S).cons e).trans ?_
 exact Xt.symm.trans ((List.Perm.swap _ _ _).append_left S)
theorem FF {α:Type} {u k e:α} {S R:List α} : (u :: (S ++ k :: e :: R)).Perm (e :: u :: (S ++ k :: R)):=by
 have h:(S ++ k :: e :: R).Perm (e :: (S ++ k :: R)):=by
  have:=Xt (a:=e) (l₁:=S ++ [k]) (l₂:=R)
  simpa using this
 exact(h.cons u).trans (List.Perm.swap _ _ _)
def vn:SC :=
 af [ae [aS 49 .lss 48 47],bO 49 (.exit 2),.block 3 (af [ae [aa 50 48,aa 9 50],ae [aa 51 8,aa 52 9,((some 53),.op (.old (.lookup 209 (.tmp 51) (.tmp 52) false) 103)),bf 54 124 [53],aa 10 54],af [ae [aa 55 10,aN 56 55,aF 57 .eql 56 0],aZ 57 (.exit 3)],ae [aa 58 9,aa 11 58],af [ae [aa 59 9,av 60 0 1,al 61 60,aN 62 61,aS 63 .geq 59 62],aZ 63 (ae [av 64 0 1,al 65 64,aN 66 65,aF 67 .sub 66 1,aa 68 9,aS 69 .sub 67 68,aa 11 69])],ae [aa 71 6,aa 72 10,bf 73 121 [72],((some 74),.op (.old (.lookup 208 (.tmp 71) (.tmp 73) true) 66)),aa 70 74,dJ 75 0 70,dJ 76 1 70,aa 12 75,aa 13 76],af [ae [aa 77 13,c5 78 77],aZ 78 (af [ae [aa 79 5,aN 80 79,aa 12 80],ae [aa 81 6,aa 82 10,bf 83 121 [82],aa 84 12,(none,.op (.old (.mapUpdate 208 (.tmp 81) (.tmp 83) (.tmp 84)) 0))],ae [aa 85 5,aa 86 10,((some 87),.op (.build [(.emp 1),(.emp 1)] [(0,1,(.tmp 86))])),((some 88),.op (.cg 1 2 [(.emp 1),(.emp 1)] [(0,(.tmp 87))])),gp 89 2 48 85 88,aa 5 89]])],ae [aa 90 5,aa 91 7,aa 92 5,aa 93 7,aL 94 2 92 93,av 95 1 94,al 96 95,aa 97 11,aa 98 12,((some 99),.op (.build [(.val (.int .i64 0)),(.val (.int .i64 0))] [(0,1,(.tmp 97)),(1,1,(.tmp 98))])),((some 100),.op (.cg 1 2 [(.val (.int .i64 0)),(.val (.int .i64 0))] [(0,(.tmp 99))])),gp 101 2 16 96 100,aL 102 2 90 91,av 103 1 102,cy 1 103 101]]),ae [aF 104 .add 48 1,aa 48 104]]
def vA:SC :=
 af [af [ae [aa 26 7,aa 27 5,aN 28 27,aS 29 .lss 26 28],bO 29 (.exit 0)],.block 1 (af [.region true [⟨none,[bb 32 4 1,bb 33 4 1,aa 34 5,aa 35 7,aL 36 2 34 35,av 37 0 36,al 38 37,bf 39 123 [33,38],bf 40 122 [32,39],aa 8 40]⟩],af [ae [av 41 0 1,al 42 41,aN 43 42,av 44 1 1,al 45 44,aN 46 45,aS 47 .add 43 46,aP 48 0],bR 2 vn],ae [aa 105 5,aN 106 105,aF 107 .gtr 106 300],aZ 107 (af [ae [bT 2 1,aP 3 5],.ret])]),ae [aa 30 7,aF 31 .add 30 1,aa 7 31]]
def yn:SF:=⟨af [ae [cE 1 0,bT 2 1,aP 3 0],af [ae [bb 14 4 1,bf 15 82 [14],c5 16 15],aZ 16 (af [ae [bT 2 1,aP 3 1],.ret])],ae [((some 17),.op (.build [(.val (.int .i64 0)),(.val (.int .i64 0))] [(0,1,(.val (.val (.int .i64 (-1)))))])),((some 18),.op (.cg 1 2 [(.val (.int .i64 0)),(.val (.int .i64 0))] [(0,(.tmp 17))])),aa 4 18],ae [aa 19 4,((some 20),.op (.build [(.emp 1),(.emp 1)] [(0,1,(.tmp 19))])),((some 21),.op (.cg 1 2 [(.emp 1),(.emp 1)] [(0,(.tmp 20))])),aa 5 21],ae [((some 22),.op (.qq)),aa 23 4,bf 24 121 [23],(none,.op (.old (.insert 208 (.tmp 22) (.tmp 24) (.const (.int .i64 0))) 0)),aa 25 22,aa 6 25],af [ae [aP 7 0],bR 0 vA],ae [aa 108 5,aa 2 108,aP 3 0],.ret],
 [.tmp 2,.tmp 3],109⟩
theorem BN:aM Tryz.prog 60 [1]=some yn:=by kernel_rfl
def Vi (g:ai) (m:Nat) (T:Env) (H:View):Prop:=∃ (at_:Nat) (u:V) (S:List pz) (out:List aQ) (q c:Nat) (M:cF (List UInt8)),m+at_=302/\out=S.map (λx=>x.2.2)/\bo H ((u,2,eP S) :: lS S)/\dG g at_ 0 out/\1<=out.length/\out.length<=300/\eW g m at_ out=bA g/\at_<=out.length /\
 H q=.map (cp gY M) c/\rD g out M/\T 1=.aJ (ag g) 0/\T 5=u/\T 6=.mp q/\T 7=gi at_
theorem Eo (g:ai) (hg:g.Ok) (ft:g.Small):ca Tryz.prog 60 [.agg (ag g)] (.aY [b4 (bA g).1,gi (bA g).2]):=by
 refine ca.of (eD g) ?_
 have ea:=SK g hg ft
 refine aw.of mixed BN ?_
 simp only[ag,encS] at ea
 simp(disch:=omega)only[↓wr,seval,wq,yn,ag,encS]
 refine ax.pure ea ?_
 simp(disch:=omega)only[↓wr,seval,wq]
 apply aj.split<;>intro hr
 rotate_left
 .simp(disch:=omega)only[↓wr,seval,wq]
  intro h' _
  have e:bA g=([],1):=by unfold bA;rw[Vs (by rw[hr];simp)]
  rw[e]
  exact ng (.emp _)
 have N:g.cU:=oA hr
 have e0:eW g 302 0 dN=bA g:=by unfold bA;rw[Vu hr]
 have hT:=N.au;have hN:=N.ak
 simp(disch:=omega)only[↓wr,seval,wq]
 intro Y q2 O q3 eb
 have ch:cD g ⟨-1,0⟩:=(kV (g:=g)).bj ⟨[⟨-1,0⟩],[]⟩ (by simp[dN]) |>.2.2 _ (by simp)
 have o0:bo (((View.set (λ_=>c7.dead) Y (.arr 2 [[gi (-1),gi 0]])).set q2 (.arr 2 [[.sl Y 0 1 2,.emp 1]]))) ((.sl q2 0 1 2,2,eP [(.sl Y 0 1 2,.emp 1,⟨[⟨-1,0⟩],[]⟩)]) :: lS [(.sl Y 0 1 2,.emp 1,⟨[⟨-1,0⟩],[]⟩)]) :=
  (((bo.nil.emp (k:=1) (sz:=2)).new (n:=Y) rfl 2 [[gi (-1),gi 0]]).new (by simpa [View.set] using O) 2 [[.sl Y 0 1 2,.emp 1]])
 have o1:=o0.fresh (n:=q3) (by simpa [View.set] using eb) (o:=.map [] 0)
 have b2:((((View.set (λ_=>c7.dead) Y (.arr 2 [[gi (-1),gi 0]])).set q2 (.arr 2 [[.sl Y 0 1 2,.emp 1]])).set q3 (.map [] 0))) q3=.map (cp gY []) 0:=by simp[View.set,cp]
 generalize (((View.set (λ_=>c7.dead) Y (.arr 2 [[gi (-1),gi 0]])).set q2 (.arr 2 [[.sl Y 0 1 2,.emp 1]])).set q3 (.map [] 0))=H3 at o1 b2 ⊢
 clear o0 O eb
 have ee:aO H3 (.sl Y 0 1 2) 2 (aT [⟨-1,0⟩]):=o1.1 _ (VL _ (Xh ..))
 refine ax.eA ((Gz g N [⟨-1,0⟩] (λx Z=>by simp at Z;subst Z;exact ch) (by simp) (.sl Y 0 1 2) H3 ee).mono ?_)
 rintro r H4 ⟨rfl,k4⟩
 have cS:H4 q3=.map (cp gY []) 0:=by rw[k4 q3 (by rw[b2];simp),b2]
 simp(disch:=omega)only[↓wr,seval,wq,To]
 refine vi (kt:=9) (et:=3) (by kernel_rfl) (Hp Tryz.underlying9) (id:=q3) (c:=0) (m:=[]) (k:=fT [⟨-1,0⟩]) (v:=gi 0) (by simp(disch:=omega)only[↓wr,seval,wq]) (by simp(disch:=omega)only[↓wr,seval,wq]) rfl cS ?_
 intro L
 have ef:rD g dN (bL (fT [⟨-1,0⟩]) (gi 0) 0 []):=rD.put (out:=[]) N (λl _=>by simp[getM,findD]) (λx Z=>by simp at Z;subst Z;exact ch) (by simp[findD]) 0
 have o2:=(o1.stay k4).A9 cS (o:=.map (cp gY (bL (fT [⟨-1,0⟩]) (gi 0) 0 [])) L)
 have cV:(H4.set q3 (.map (cp gY (bL (fT [⟨-1,0⟩]) (gi 0) 0 [])) L)) q3=.map (cp gY (bL (fT [⟨-1,0⟩]) (gi 0) 0 [])) L:=by simp[View.set]
 generalize H4.set q3 (.map (cp gY (bL (fT [⟨-1,0⟩]) (gi 0) 0 [])) L)=H5 at o2 cV ⊢
 clear cS b2 k4 ee o1
 clear H4 H3
 simp(disch:=omega)only[↓wr,seval,wq]
 refine aR.intro (Vi g) 302 ⟨0,_,_,dN,q3,L,_,rfl,rfl,o2,kV,VA _,by simp[dN],e0,by omega,cV,ef,rfl,rfl,rfl,rfl⟩ ?_
 clear o2 cV ef
 clear H5 Y q2 q3 L
 rintro m T H ⟨at_,u,S,out,q,c,M,hm,rfl,P,hI,h1,cj,hl,hle,w,G,t1,t5,t6,t7⟩
 have a1:ct u=some S.length:=by rw[P.head.len,c6]
 simp only[Vx] at h1 cj hle
 simp(disch:=omega)only[↓wr,seval,wq,vA,t1,t5,t6,t7,a1]
 apply aj.dec<;>intro hc
 rotate_left
 .simp(disch:=omega)only[↓wr,seval,wq,t5]
  have e1:bA g=(S.map (λx=>x.2.2),0):=by
   rw[<-hl]
   cases m with
   | zero=>rfl
   | succ m=>rw[eW,Vs (by simp;omega)]
  rw[e1]
  rintro h' rfl
  exact ng (Dv P.head λx Z=>⟨P.1 _ (VL _ (nj Z).1),P.1 _ (VL _ (nj Z).2)⟩)
 obtain⟨m,rfl⟩:∃ q,m=q+1:=⟨m - 1,by omega⟩
 have a6:at_ < S.length:=by omega
 obtain⟨d,x,t,rfl,ab,Z⟩:=vU a6
 have c3:x∈d ++ x :: t:=by simp
 obtain⟨eg,fx,a7⟩:=hI.bj x.2.2 (List.mem_map_of_mem c3)
 have fz:=jQ N eg a7
 have hh:aO H u 2 (eP (d ++ x :: t)):=P.head
 obtain⟨id,hu,C⟩:=hh.sl (by rw[c6];omega)
 have a8:(eP (d ++ x :: t)).getD at_ []=[x.1,x.2.1]:=by simp[eP,Vp,<-ab]
 have ei:cP g ((List.map (λx=>x.2.2) (d ++ x :: t)).getD at_ bJ).bj=cP g x.2.2.bj:=by
  rw[Vp,Vt,Z];rfl
 have ck:=λn hn=>dG.row (hI.lV N (show at_ < ((d ++ x :: t).map λx=>x.2.2).length by simpa using a6)).1 (hI.lV N (show at_ < ((d ++ x :: t).map λx=>x.2.2).length by simpa using a6)).2 hI n hn
 rw[eW,Vu (by simpa using a6),ua] at hl
 rw[ei] at hl ck
 have ej:=r8 g x.2.2.bj
 have c4:∀ y∈cP g x.2.2.bj,cD g y:=λy hy=>((fL N a7).1 hy).has a7
 rw[c6] at hu
 simp(disch:=omega)only[↓wr,seval,wq,t1,t5,t7,hu,C,a8,ag,encS]
 refine⟨by omega,by rw[c6];omega,?_⟩
 refine ax.CW (IT g N x.2.2.bj a7 (by omega) x.1 H (P.1 _ (VL _ (nj c3).1))) ?_
 intro r H2 or fr
 simp(disch:=omega)only[↓wr,seval,wq,ag,encS]
 have ht:=jQ N ej c4
 refine ax.still (PC g N (cP g x.2.2.bj) c4 (by omega) r H2 or) (λr H' h=>by obtain⟨q,A,_,h⟩:=h;exact h.old) ?_
 rintro r2 H6 ⟨U,A,rfl,D⟩
 have da:∀ id,H id≠.dead->H6 id=H id:=λid C=>by rw[D.old id (by rw[(fr id C).1];exact C),(fr id C).1]
 have cu:H6 q=.map (cp gY M) c:=by rw[da q (by rw[w];simp),w]
 have o6:bo H6 ((u,2,eP (d ++ x :: t)) :: (lS (d ++ x :: t) ++ jc g (cP g x.2.2.bj) (A.filter λy=>decide (((0:Nat):Int)<=y.1)))):=by
  have hA:A.filter (λy=>decide (((0:Nat):Int)<=y.1))=A:=List.filter_eq_self.2 λy hy=>by simpa using (D.ne y hy).1
  rw[hA]
  refine(P.stay da).join (M:=jc g (cP g x.2.2.bj) A) D.own λa ha b hb id h1 h2=>?_
  obtain⟨y,hy,rfl⟩:=VO.1 hb
  have h3:=D.new y hy id h2
  have h4:=P.live ha h1
  rw[(fr id h4).1] at h3
  exact h4 h3
 obtain⟨cA,Q⟩:=D.mp
 have hAnd:=D.nd
 have ga:U≠q:=by
  rintro rfl
  have:=D.q0
  rw[(fr _ (by rw[w];simp)).1,w] at this;simp at this
 have bd:∀ k:Nat,(getM A (k:Int)=none->bh g (cP g x.2.2.bj) (aU g k)=[]):=λk h=>Decidable.byContradiction λan=>getM_none.1 h (D.all k an)
 clear or fr C a8 ei Z da D w
 generalize cP g x.2.2.bj=cl at *
 generalize E:(d ++ x :: t).map (λx=>x.2.2)=bl at *
 have ek:bl.length=(d ++ x :: t).length:=by rw[<-E];simp
 simp(disch:=omega)only[↓wr,seval,wq,t1,t5,t6,t7,ag,encS]
 refine aR.up (g.au.length+g.ak.length) (λi T H'=>∃ (u:V) (S:List pz) (M:cF (List UInt8)) (c:Nat),S.map (λx=>x.2.2)=(List.range i).foldl (cW g cl at_) bl/\bo H' ((u,2,eP S) :: (lS S ++ jc g cl (A.filter λy=>decide (((i:Nat):Int)<=y.1)))) /\
  H' U=.map (cp (Value.int .i64) A) cA/\H' q=.map (cp gY M) c/\rD g (S.map λx=>x.2.2) M/\T 1=.aJ (ag g) 0/\T 5=u/\T 6=.mp q/\T 7=gi at_/\T 8=.mp U/\T 47=gi ((g.au.length+g.ak.length:Nat):Int)/\T 48=gi i)
  ⟨u,_,M,c,E,o6,Q,cu,by rw[E];exact G,t1,by rw[<-hu];exact t5,t6,t7,rfl,?_,rfl⟩ ?_
 .push_cast;rfl
 rw[<-ek] at h1 cj hle a6
 clear o6 P hh hu t1 t5 t6 t7 a1 E c3 ek hc eg fx a7 fz ab Q cu G
 clear u H H2 H6 T id d x t M c r
 rintro i k T H' hk ⟨u,S,M,c,hA,P,Q,w,G,t1,t5,t6,t7,t8,t47,t48⟩
 obtain⟨iI,eH,e3⟩:=ck i (by omega)
 rw[<-hA] at iI eH e3
 rw[Vx] at eH e3
 have a1:ct u=some S.length:=by rw[P.head.len,c6]
 simp(disch:=omega)only[↓wr,seval,wq,vn,t1,t5,t6,t7,t8,t47,t48]
 apply aj.dec<;>intro hc
 rotate_left
 .have hi:i=g.au.length+g.ak.length:=by omega
  subst hi
  rw[<-hA] at hl
  simp(disch:=omega)only[↓wr,seval,wq,t1,t5,t6,t7,a1]
  apply aj.dec<;>intro h3
  .simp(disch:=omega)only[↓wr,seval,wq]
   intro h' _
   rw[Vu (by rw[Vx];omega)] at hl
   rw[<-hl]
   exact ng (.emp _)
  .simp(disch:=omega)only[↓wr,seval,wq,t1,t5,t6,t7]
   rw[Vs (by rw[Vx];omega)] at hl
   exact⟨m,by omega,at_+1,u,S,_,q,c,M,by omega,rfl,P.sub (List.Sublist.cons_cons _ (List.sublist_append_left _ _)),iI.next,by rw[Vx];omega,by rw[Vx];omega,hl,by rw[Vx];omega,w,G,t1,t5,t6,rfl⟩
 have gd:i < g.au.length+g.ak.length:=by omega
 have hv:=Ct N gd
 have bn:(List.range (i+1)).foldl (cW g cl at_) bl=cW g cl at_ (S.map λx=>x.2.2) i:=by rw[WX,WQ,<-hA];rfl
 have e4:aO H' ((getM A (i:Int)).getD (.emp 1)) 2 (aT (bh g cl (aU g i))):=by
  cases hg:getM A (i:Int) with
  | none=>rw[bd i hg];exact .nil
  | some v =>
   obtain⟨b,hp⟩:=Hk hAnd hg
   refine P.1 (v,2,aT (bh g cl (aU g i))) (VL _ (List.mem_append_right _ (VO.2 ⟨((i:Int),v,b),hp.mem_iff.2 (by simp),?_⟩)))
   simp
 have cv:(jc g cl (A.filter λy=>decide (((i+1:Nat):Int)<=y.1))).Sublist (jc g cl (A.filter λy=>decide (((i:Nat):Int)<=y.1))):=by
  have:A.filter (λy=>decide (((i+1:Nat):Int)<=y.1))=(A.filter (λy=>decide (((i:Nat):Int)<=y.1))).filter (λy=>decide (((i+1:Nat):Int)<=y.1)):=by
   rw[List.filter_filter]
   refine List.filter_congr λy _=>?_
   rw[<-Bool.decide_and,decide_eq_decide];omega
  rw[this]
  exact(List.filter_sublist).map _
 simp(disch:=omega)only[↓wr,seval,wq,t8,t48]
 refine zu (kt:=3) (et:=103) (z:=.emp 1) (by kernel_rfl) (by kernel_rfl) (k9 .i64 Tryz.underlying3) (id:=U) (c:=cA) (m:=A) (k:=(i:Int)) (by simp(disch:=omega)only[↓wr,seval,wq]) (by simp(disch:=omega)only[↓wr,seval,wq]) Q ?_
 simp(disch:=omega)only[↓wr,seval,wq]
 refine ax.eA ((MW (EV (aU g i) ej) (by have:=sT (g:=g) (l:=cl) (s:=aU g i);omega) _ H' e4).mono ?_)
 rintro r _ ⟨rfl,or,e5⟩
 have hz:=sT (g:=g) (l:=cl) (s:=aU g i)
 have b7:=Hg (s:=aU g i) c4
 have gk:ct r=some (bh g cl (aU g i)).length:=by rw[or.len,bE]
 simp(disch:=omega)only[↓wr,seval,wq,gk]
 apply aj.eq<;>intro he
 .have e6:bh g cl (aU g i)=[]:=W9.1 (by omega)
  simp(disch:=omega)only[↓wr,seval,wq,t1,t5,t6,t7,t8,t47,t48]
  exact aE hk (by omega) ⟨u,S,M,c,by rw[bn,cW,Vu e6],P.sub (List.Sublist.cons_cons _ (cv.append_left _)),Q,w,G,t1,t5,t6,t7,t8,t47,rfl⟩
 have an:bh g cl (aU g i)≠[]:=λe=>he (by rw[e];rfl)
 have gl:∃ v,getM A (i:Int)=some v:=by
  cases hg:getM A (i:Int) with
  | none=>exact absurd (bd i hg) an
  | some v=>exact⟨v,rfl⟩
 obtain⟨v,hg⟩:=gl
 have db:=e5 an
 rw[hg] at db
 simp only[VI] at db
 obtain⟨b,dj⟩:=Hk hAnd hg
 have b8:(jc g cl (A.filter λy=>decide (((i:Nat):Int)<=y.1))).Perm ((r,2,aT (bh g cl (aU g i))) :: jc g cl (A.filter λy=>decide (((i+1:Nat):Int)<=y.1))):=by
  have:=dj.map (λx:Int × V × Nat=>((x.2.1,2,aT (bh g cl (aU g x.1.toNat))):dM))
  simp only[VX,V2] at this
  rw[db];exact this
 have gr:=wD (S.map λx=>x.2.2) (bh g cl (aU g i))
 have hB:=sK (S.map λx=>x.2.2) (bh g cl (aU g i))
 rw[Vx] at gr
 have b9:=G (bh g cl (aU g i)) b7
 have e7:at_ < S.length:=by omega
 obtain⟨d,x,t,I,ab,Z⟩:=vU e7
 have hC:x.2.2.b3.length<=40:=(iI.b3 at_ x.2.2 (by rw[Vt,Z];rfl)).1
 have a8:∀ B,(eP (d ++ x :: B)).getD at_ []=[x.1,x.2.1]:=λB=>by simp[eP,Vp,<-ab]
 have e8:∀ (B:List pz) (c:fi),((d ++ x :: B).map λx=>x.2.2).modify at_ (λs=>(⟨s.bj,s.b3 ++ [c]⟩:aQ))=(d ++ (x.1,x.2.1,(⟨x.2.2.bj,x.2.2.b3 ++ [c]⟩:aQ)) :: B).map λx=>x.2.2:=λB c=>by
  rw[VW,VX,<-ab,<-Vx (f:=λx:pz=>x.2.2),Bl,VW,VX]
 simp(disch:=omega)only[↓wr,seval,wq,t1,t5,t6,t7,t8,ag,encS]
 apply aj.dec<;>intro hd
 simp(disch:=omega)only[↓wr,seval,wq,t1,t5,t6,t7,t8,ag,encS]
 have hs:aU g i=(g.au.length:Int) - 1 - i:=by unfold aU;rw[Vs (by omega)];omega
 generalize (g.au.length:Int) - 1 - (i:Int)=sv at hs ⊢
 rotate_left
 simp(disch:=omega)only[↓wr,seval,wq,t1,t5,t6,t7,t8,ag,encS]
 have hs:aU g i=(i:Int):=by unfold aU;rw[Vu (by omega)]
 generalize ((i:Nat):Int)=sv at hs ⊢
 all_goals (
  refine ax.eA ((Gz g N (bh g cl (aU g i)) b7 (by omega) r H' or).mono ?_)
  rintro rk H3 ⟨rfl,k3⟩
  have W:H3 q=.map (cp gY M) c:=by rw[k3 q (by rw[w];simp),w]
  have br:H3 U=.map (cp (Value.int .i64) A) cA:=by rw[k3 U (by rw[Q];simp),Q]
  have o3:=P.stay k3
  have hj:aO H3 r 2 (aT (bh g cl (aU g i))):=or.keep λid C=>k3 id (by rw[(or.live C).1];simp)
  simp(disch:=omega)only[↓wr,seval,wq,t6]
  refine Rl (kt:=9) (et:=3) (z:=gi 0) (by kernel_rfl) (by kernel_rfl) (Hp Tryz.underlying9) (id:=q) (c:=c) (m:=M) (k:=fT (bh g cl (aU g i))) (by simp(disch:=omega)only[↓wr,seval,wq]) (by simp(disch:=omega)only[↓wr,seval,wq]) W ?_
  by_cases J:findD (S.map λx=>x.2.2) (bh g cl (aU g i)) < 0
  rw[Vu J] at b9
  rw[b9]
  simp only[Option.getD_none,Option.isSome_none]
  simp(disch:=omega)only[↓wr,seval,wq,t1,t5,t6,t7,t8,a1]
  refine ax.eA ((Gz g N (bh g cl (aU g i)) b7 (by omega) r H3 hj).mono ?_)
  rintro hE H4 ⟨rfl,k4⟩
  have bs:H4 q=.map (cp gY M) c:=by rw[k4 q (by rw[W];simp),W]
  have cC:H4 U=.map (cp (Value.int .i64) A) cA:=by rw[k4 U (by rw[br];simp),br]
  have o4:=o3.stay k4
  simp(disch:=omega)only[↓wr,seval,wq,t6]
  refine vi (kt:=9) (et:=3) (by kernel_rfl) (Hp Tryz.underlying9) (id:=q) (c:=c) (m:=M) (k:=fT (bh g cl (aU g i))) (v:=gi S.length) (by simp(disch:=omega)only[↓wr,seval,wq]) (by simp(disch:=omega)only[↓wr,seval,wq]) (by simp(disch:=omega)only[↓wr,seval,wq]) bs ?_
  intro L
  have R:rD g ((d ++ x :: (t ++ [(r,.emp 1,(⟨bh g cl (aU g i),[]⟩:aQ))])).map λx=>x.2.2) (bL (fT (bh g cl (aU g i))) (gi S.length) c M):=by
   have:=rD.put N G b7 J c
   rw[Vx] at this
   refine this.same ?_
   rw[I];simp
  have K:(H4.set q (.map (cp gY (bL (fT (bh g cl (aU g i))) (gi S.length) c M)) L)) q=.map (cp gY (bL (fT (bh g cl (aU g i))) (gi S.length) c M)) L:=by simp[View.set]
  have X:(H4.set q (.map (cp gY (bL (fT (bh g cl (aU g i))) (gi S.length) c M)) L)) U=.map (cp (Value.int .i64) A) cA:=by
   simp only[View.set];rw[Vs ga];exact cC
  have o5:=o4.A9 bs (o:=.map (cp gY (bL (fT (bh g cl (aU g i))) (gi S.length) c M)) L)
  generalize H4.set q (.map (cp gY (bL (fT (bh g cl (aU g i))) (gi S.length) c M)) L)=H5 at K X o5 ⊢
  clear bs cC o4 k4
  generalize bL (fT (bh g cl (aU g i))) (gi S.length) c M=M2 at R K
  simp(disch:=omega)only[↓wr,seval,wq,t1,t5,t6,t7,t8,or.cells,or.gv]
  intro q5 bx
  simp(disch:=omega)only[↓wr,seval,wq,bP]
  have aq:∀ b,H5 b≠.dead->b≠q5:=λb hb e=>hb (by rw[e];exact bx)
  refine dp (o5.fresh bx) (by simp[or.gv,zC]) (by unfold aC;rw[c6];simp;omega) (by unfold aC;rw[c6];simp;omega) ?_
  intro u2 cc e9 dm
  have j:=dm.map (o5.fresh (o:=.arr 2 [[r,.emp 1]]) bx).head (b:=q) (c:=L) (es:=cp gY M2) (by simp only[View.set];rw[Vs (aq q (by rw[K];simp)),K])
  have F:=dm.map (o5.fresh (o:=.arr 2 [[r,.emp 1]]) bx).head (b:=U) (c:=cA) (es:=cp (Value.int .i64) A) (by simp only[View.set];rw[Vs (aq U (by rw[X];simp)),X])
  have fb:=(e9.emp (k:=1) (sz:=2)).perm (T6 b8)
  have ar:cW g cl at_ (S.map λx=>x.2.2) i=((d ++ x :: (t ++ [(r,.emp 1,(⟨bh g cl (aU g i),[]⟩:aQ))])).map λx=>x.2.2).modify at_ (λs=>(⟨s.bj,s.b3 ++ [⟨aU g i,(S.length:Int)⟩]⟩:aQ)):=by
   rw[cW,Vs an,Vu J,Vx]
   congr 1
   rw[I];simp
  have p:bo cc ((u2,2,eP (d ++ x :: (t ++ [(r,.emp 1,(⟨bh g cl (aU g i),[]⟩:aQ))]))) :: (lS (d ++ x :: (t ++ [(r,.emp 1,(⟨bh g cl (aU g i),[]⟩:aQ))])) ++ jc g cl (A.filter λy=>decide (((i+1:Nat):Int)<=y.1)))):=by
   have e1:eP (d ++ x :: (t ++ [(r,.emp 1,(⟨bh g cl (aU g i),[]⟩:aQ))]))=eP S ++ [[r,.emp 1]]:=by rw[I];simp[eP]
   have e2:lS (d ++ x :: (t ++ [(r,.emp 1,(⟨bh g cl (aU g i),[]⟩:aQ))]))=lS S ++ [(r,2,aT (bh g cl (aU g i))),(.emp 1,2,[])]:=by rw[I];simp[lS];rfl
   rw[e1,e2]
   exact fb
  have ds:(d ++ x :: (t ++ [(r,V.emp 1,(⟨bh g cl (aU g i),[]⟩:aQ))])).length<=400:=by
   have:=W4 List.length I
   simp at this ⊢;omega
  generalize (t ++ [(r,V.emp 1,(⟨bh g cl (aU g i),[]⟩:aQ))])=B at ar p R ds
  generalize (S.length:Int)=to at ar ⊢
  clear e9 fb dm K X o5 aq bx
  rotate_left
  rw[Vs J] at b9
  rw[b9]
  simp only[VI,Option.isSome_some]
  simp(disch:=omega)only[↓wr,seval,wq,t1,t5,t6,t7,t8]
  have ar:cW g cl at_ (S.map λx=>x.2.2) i=((d ++ x :: t).map λx=>x.2.2).modify at_ (λs=>(⟨s.bj,s.b3 ++ [⟨aU g i,findD (S.map λx=>x.2.2) (bh g cl (aU g i))⟩]⟩:aQ)):=by
   rw[cW,Vs an,Vs J,<-I]
  have p:=o3.sub (List.Sublist.cons_cons _ (cv.append_left _))
  have R:=G
  have ds:(d ++ x :: t).length<=400:=by rw[<-I];omega
  have j:=W
  have F:=br
  generalize H3=cc at p j F ⊢
  generalize u=u2 at p t5 ⊢
  rw[I] at p R
  generalize findD (S.map λx=>x.2.2) (bh g cl (aU g i))=to at ar ⊢
  generalize t=B at ar p R ds
  generalize M=M2 at j R
  generalize c=L at j
  all_goals (
   obtain⟨id,hu,C⟩:=(show aO cc u2 2 (eP (d ++ x :: B)) from p.head).sl (by rw[c6];simp;omega)
   rw[c6] at hu
   rw[zn] at p
   simp only[We,V4] at p
   simp(disch:=omega)only[↓wr,seval,wq,t1,t5,t6,t7,t8,hu,C,a8 B]
   refine⟨by simp;omega,by rw[c6];simp;omega,?_⟩
   intro q2 O
   have aq:∀ b,cc b≠.dead->b≠q2:=λb hb e=>hb (by rw[e];exact O)
   simp(disch:=omega)only[↓wr,seval,wq,bP]
   refine dp ((p.perm FF).fresh O) (by simp[aH]) (by unfold aC;simp[jM];omega) (by unfold aC;simp[jM];omega) ?_
   intro e2 ff cf fl
   have b0:=fl.map ((p.perm FF).fresh (o:=.arr 2 [[gi sv,gi to]]) O).head (b:=q) (c:=L) (es:=cp gY M2) (by simp only[View.set];rw[Vs (aq q (by rw[j];simp)),j])
   have b1:=fl.map ((p.perm FF).fresh (o:=.arr 2 [[gi sv,gi to]]) O).head (b:=U) (c:=cA) (es:=cp (Value.int .i64) A) (by simp only[View.set];rw[Vs (aq U (by rw[F];simp)),F])
   have cI:ff id=.arr 2 (eP (d ++ x :: B)):=((cf.own 1 rfl).live (by rw[hu];rfl)).1
   simp(disch:=omega)only[↓wr,seval,wq,t1,t5,t6,t7,t8,t47,t48,hu,cI,a8 B,cf.head.cells,cf.head.gv]
   have fm:(eP (d ++ x :: B)).set at_ [x.1,e2]=eP (d ++ (x.1,e2,(⟨x.2.2.bj,x.2.2.b3 ++ [⟨aU g i,to⟩]⟩:aQ)) :: B):=by
    rw[<-ab];simp[eP]
   have hq:jM (x.2.2.b3 ++ [⟨aU g i,to⟩])=jM x.2.2.b3 ++ [[gi sv,gi to]]:=by rw[hs];simp[jM,kI]
   have fs:=cf.perm (.swap _ _ _)
   rw[hu] at fs
   have dv:=((fs.put (es':=eP (d ++ (x.1,e2,(⟨x.2.2.bj,x.2.2.b3 ++ [⟨aU g i,to⟩]⟩:aQ)) :: B)) (by rw[c6,c6];simp) (by rw[c6])).perm (.swap _ _ _)).perm FF.symm
   rw[<-hq] at dv
   rw[<-hu] at dv
   rw[fm]
   have cN:∀ b c es,ff b=.map es c->b≠id:=λb c es hb e=>by rw[e,cI] at hb;simp at hb
   refine⟨by simp;omega,by rw[c6];simp;omega,aE hk (by omega) ⟨u2,_,M2,L,?_,by rw[zn];simp only[We,V4];exact dv,?_,?_,?_,t1,by first | rfl | exact t5 | exact hu.symm,t6,t7,t8,t47,rfl⟩⟩
   .rw[bn,ar,e8];simp
   .simp only[View.set];rw[Vs (cN U _ _ b1)];exact b1
   .simp only[View.set];rw[Vs (cN q _ _ b0)];exact b0
   .refine R.same ?_
    simp))
end Gv
