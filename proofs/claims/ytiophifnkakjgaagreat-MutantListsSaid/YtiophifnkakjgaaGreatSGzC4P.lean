/-
  Part 16 of the proof: what the machine does and what the functions answer.
  Conditions: those that each lemma names.
-/
import Derived.Test.YtiophifnkakjgaaGreatSGzC4O
set_option linter.unusedSimpArgs false
set_option linter.unusedVariables false
set_option maxRecDepth 100000
set_option maxHeartbeats 20000000
namespace Gv
open Go Go.Proofs
def gD:SC:=
 ai [ag [aS 9 .lss 8 7],bO 9 (.exit 0),.block 1 (ai [ag [af 10 8,af 5 10],ag [af 11 1,af 12 0,af 13 5,aL 14 2 12 13,aV 15 2 14,((some 16),.call (.tmp 11) [(.tmp 15)])],aX 16 (ai [ag [af 17 5,af 4 17],.ret])]),ag [aI 18 .add 8 1,af 8 18]]
def gR:SF:=⟨ai [ag [aT 4 0],ai [ag [af 6 0,aM 7 6,aT 8 0],bR 0 gD],ag [aT 4 (-1)],.ret],
 [.tmp 4],19⟩
theorem kH:aJ aa 249 []=some gR:=by kernel_rfl
def AI:SF:=⟨ai [ag [bZ 2 0,bb 3 false],ag [aw 4 0 2,au 5 4,au 6 1,aS 7 .eql 5 6,af 3 7],.ret],
 [.tmp 3],8⟩
theorem El:aJ aa 250 [2]=some AI:=by kernel_rfl
def AV:SC:=
 ai [ag [aS 24 .lss 23 22],bO 24 (.exit 0),.block 1 (ai [ag [aL 25 1 21 23,au 26 25,((some 10),.op (.alloc [(.val (.int .i64 0))])),cz 1 10 26],ag [af 27 0,af 28 8,aL 29 2 27 28,aw 30 1 29,au 31 30,((some 32),.op (.uh 250 [] [(.tmp 10)])),aU 33 249 [31,32],af 11 33],ai [ag [af 34 11,aI 35 .lss 34 0],aX 35 (ai [ag [aT 6 0,bb 7 false],.ret])],ag [af 36 0,af 37 8,aL 38 2 36 37,aw 39 1 38,au 40 39,af 41 11,aL 42 2 40 41,aw 43 1 42,au 44 43,af 8 44],.region false [⟨none,[af 45 8,aI 46 .lss 45 0,af 47 46]⟩,⟨(some (47,false)),[af 48 8,af 49 0,aM 50 49,aS 51 .geq 48 50]⟩,⟨none,[cJ 52 47 51]⟩],aX 52 (ai [ag [aT 6 0,bb 7 false],.ret])]),ag [aI 53 .add 23 1,af 23 53]]
def DX:SF:=⟨ai [ag [aT 6 0,bb 7 false],ag [af 12 1,af 8 12],ai [.region false [⟨none,[af 13 8,aI 14 .lss 13 0,af 15 14]⟩,⟨(some (15,false)),[af 16 8,af 17 0,aM 18 17,aS 19 .geq 16 18]⟩,⟨none,[cJ 20 15 19]⟩],aX 20 (ai [ag [aT 6 0,bb 7 false],.ret])],ai [ag [af 21 2,aM 22 21,aT 23 0],bR 0 AV],ag [af 54 8,af 6 54,bb 7 true],.ret],
 [.tmp 6,.tmp 7],55⟩
theorem Hi:aJ aa 193 []=some DX:=by kernel_rfl
theorem Qm (l:List fW) (g:aG l) (f:FuncId) (cap:List V) (p:fW->Bool) (H:View) (h:∀x∈l,az aa f (.agg (lY x)::cap) H λr H'=>r=gb (p x)/\H'=H):
  az aa 249 [.aY (k5 l),.fn f [] cap] H λr H'=>r=gi (dX p l 0)/\H'=H:=by
 refine az.of mixed kH ?_
 unfold aG at g
 simp(disch:=omega)only[↓wr,seval,wq,gR,k5]
 refine aW.up l.length (λi T H'=>H=H'/\dX p (l.drop i) i=dX p l 0/\T 0=.aY (l.map lY)/\T 1=.fn f [] cap/\T 7=gi l.length/\T 8=gi i) ⟨rfl,rfl,rfl,rfl,rfl,rfl⟩ ?_
 rintro i k T _ hk ⟨rfl,hi,b,h1,c,d⟩
 simp(disch:=omega)only[↓wr,seval,wq,gD,c,d]
 apply ao.dec<;>intro j
 .have e:l[i]?=some (l[i]'(by omega)):=aa8 (by omega)
  have hm:l[i]'(by omega)∈l:=abe _
  rw[eO (show i<l.length by omega)] at hi
  generalize l[i]'(by omega)=x at e hm hi
  simp(disch:=omega)only[↓wr,seval,wq,b,h1,d,aba,e,lY]
  have a:=h x hm
  simp only[lY] at a
  refine ay.cF (a.mono ?_)
  rintro r m ⟨rfl,rfl⟩
  simp only[dX] at hi
  simp(disch:=omega)only[↓wr,seval,wq]
  apply ao.split<;>intro hp
  .simp(disch:=omega)only[↓wr,seval,wq,d]
   rw[<-hi,abb hp]
  .simp(disch:=omega)only[↓wr,seval,wq,d]
   refine aF hk (by omega) ⟨rfl,?_,b,h1,c,rfl⟩
   rw[aa9 (by simp[hp])] at hi
   push_cast;exact hi
 .rw[aby (by omega)] at hi
  simp(disch:=omega)only[↓wr,seval,wq]
  rw[<-hi];rfl
theorem Wi (x:fW) (s:Int) (q:Nat) (H:View) (a:H q=.arr 1 [[gi s]]):az aa 250 [.agg (lY x),.ptr q 0 0] H λr H'=>r=gb (decide (x.sym=s))/\H'=H:=by
 refine az.of mixed El ?_
 simp(disch:=omega)only[↓wr,seval,wq,AI,lY,a]
 congr 2
theorem LJ (s:Int):∀(l:List fW) (i:Int),0<=i->(dX (λe=>decide (e.sym=s)) l i<0->iy l s = -1)/\(0<=dX (λe=>decide (e.sym=s)) l i->∃(k:Nat) (e:fW),dX (λe=>decide (e.sym=s)) l i=i+k/\l[k]?=some e/\iy l s=e.to)
 | [],i,_=>⟨λ_=>rfl,λh=>by simp[dX] at h⟩
 | x::l,i,d=>by
  simp only[dX,iy,abn]
  by_cases h:x.sym=s
  .rw[abb h,abb h]
   exact⟨λh=>by omega,λ_=>⟨0,x,by simp,rfl,rfl⟩⟩
  .rw[aa9 h,aa9 h]
   obtain⟨h1,a⟩:=LJ s l (i+1) (by omega)
   refine⟨h1,λh=>?_⟩
   obtain⟨k,e,b,k2,c⟩:=a h
   exact⟨k+1,e,by rw[b];push_cast;omega,by simpa using k2,c⟩
theorem RL {l:List fW} (h:∀e∈l,bm e.to) (s:Int):bm (iy l s):=by
 induction l with
 | nil=>unfold bm;simp[iy]
 | cons e l a =>
  rw[iy];split
  .exact h e (by simp)
  .exact a λx b=>h x (by simp[b])
theorem Wg (a:List ba) (_:aG a) (he:∀s∈a,aG s.cG/\∀e∈s.cG,bm e.sym/\bm e.to) (fr:Int) (syms:List Int) (t:aG syms):aC aa 193 [cq a,gi fr,encI syms] (.bc [gi (oF a fr syms).1,gb (oF a fr syms).2]):=by
 unfold aG at t
 refine aC.tree (by
  intro v l;simp at l
  rcases l with rfl | rfl | rfl
  .exact nR _
  .exact .val _
  .exact bg _) (tP (.val _) (.val _)) λH=>?_
 refine az.of mixed Hi ?_
 unfold oF
 simp(disch:=omega)only[↓wr,seval,wq,DX,cq,encI]
 apply ao.dec<;>intro h1
 .simp(disch:=omega)only[↓wr,seval,wq]
  rw[abb (by omega)]
 simp(disch:=omega)only[↓wr,seval,wq]
 apply ao.dec<;>intro u
 .simp(disch:=omega)only[↓wr,seval,wq]
  rw[abb (by omega)]
 rw[aa9 (by omega)]
 simp(disch:=omega)only[↓wr,seval,wq]
 refine aW.up syms.length (λi T H'=>∃at_:Int,0<=at_/\at_<a.length/\jU a at_ (syms.drop i)=jU a fr syms/\T 0=cq a/\T 8=gi at_/\T 21=encI syms/\T 22=gi syms.length/\T 23=gi i) ⟨fr,by omega,by omega,rfl,rfl,rfl,rfl,rfl,rfl⟩ ?_
 rintro i k T H' hk ⟨at_,D,E,hw,t0,t8,t21,t22,t23⟩
 simp(disch:=omega)only[↓wr,seval,wq,AV,t22,t23,encI]
 apply ao.dec<;>intro w
 .have m:syms[i]?=some (syms[i]'(by omega)):=aa8 (by omega)
  rw[abS (show i<syms.length by omega)] at hw
  generalize syms[i]'(by omega)=x at m hw
  have f:a[at_.toNat]?=some (a.getD at_.toNat cg):=getD_some (by omega)
  obtain⟨b,c⟩:=he _ (abi f)
  rw[jU] at hw
  have g:=RL (λe h=>(c e h).2) x
  generalize a.getD at_.toNat cg=S at f b c hw g
  simp(disch:=omega)only[↓wr,seval,wq,t0,t8,t21,t23,encI,aba,m]
  intro q F
  rw[set_set]
  have d:(H'.set q (.arr 1 [[gi x]])) q=.arr 1 [[gi x]]:=by simp[View.set]
  generalize H'.set q (.arr 1 [[gi x]])=n at d
  simp(disch:=omega)only[↓wr,seval,wq,cq,aba,f,nq]
  refine ay.cF ((Qm S.cG b 250 [.ptr q 0 0] (λe=>decide (e.sym=x)) n (λe _=>Wi e x q n d)).mono ?_)
  rintro r G ⟨rfl,rfl⟩
  obtain⟨i1,i2⟩:=LJ x S.cG 0 (by omega)
  unfold aG at b
  simp(disch:=omega)only[↓wr,seval,wq]
  apply ao.dec<;>intro o
  .simp(disch:=omega)only[↓wr,seval,wq]
   rw[<-hw,i1 o,aa9 (by omega)]
  .obtain⟨j,e,y,p,z⟩:=i2 (by omega)
   have I:=(abf.1 p).1
   rw[y]
   have A:((0:Int)+(j:Int))=(j:Int):=by omega
   rw[A]
   rw[z] at hw g
   unfold bm at g
   simp(disch:=omega)only[↓wr,seval,wq,t0,t8,cq,aba,f,nq,k5,p,lY]
   apply ao.dec<;>intro B
   .simp(disch:=omega)only[↓wr,seval,wq]
    rw[<-hw,aa9 (by omega)]
   .simp(disch:=omega)only[↓wr,seval,wq,t0,cq]
    apply ao.dec<;>intro C
    .simp(disch:=omega)only[↓wr,seval,wq]
     rw[<-hw,aa9 (by omega)]
    .simp(disch:=omega)only[↓wr,seval,wq,t23]
     rw[abb ⟨by omega,by omega⟩] at hw
     exact aF hk (by omega) ⟨e.to,by omega,by omega,hw,t0,rfl,t21,t22,rfl⟩
 .simp(disch:=omega)only[↓wr,seval,wq,t8]
  rw[aby (by omega),jU] at hw
  rw[<-hw]
section
variable {P:Program} {T:Env} {H:View} {K:V->View->Prop} {w:dd (T,H,K)} {t ty:TypeId}
theorem VW {d:Operand} {id off len sz bytes s:Nat} {z:List V} {es:List (List V)} (he:pV P t=some (sz,bytes,z)) (h:ev T d=.sl id off len sz) (hH:H id=.arr s es) (i:off+len<=es.length) (j:len≠0)
  (hk:K (.bc []) (H.set id (.arr sz (eS es off (List.replicate len z))))):kb P (.call { callee:=.builtin .clear,args:=#[d],argTypes:=#[t] }) ty T H K w:=by
 obtain⟨e,ti,b,hi,c,k,f,a,g,rfl,rfl⟩:=lA he
 intro n _
 refine⟨.bc [],.fP id (.arr ti.size (eS es off (List.replicate len z))),[id],?_,hk⟩
 simp only[sI,cL,oper]
 simp only[abC] at a
 simp[yW,b,h,cE,c,j,hH,i,g,k,f]
 exact a
end
theorem Bo:∀(xs A B:List (List V)),xs.length<=B.length->eS (A++B) A.length xs=A++xs++B.drop xs.length
 | [],A,B,_=>by simp[eS]
 | x::r,A,[],h=>by simp at h
 | x::r,A,b::B,h=>by
  rw[eS,List.set_append_right _ _ (abg _),Nat.sub_self,List.set_cons_zero]
  have:=Bo r (A++[x]) B (by simpa using h)
  simpa using this
theorem BF {id off k m:Nat} (hm:m<=k):c6 2 (.sl id off k 2) (some (gi m)) none=some (.sl id (off+m) (k-m) 2,.none,[]):=by
 simp[c6,bound,asNat,hm]
theorem Ly {id off k m:Nat} (hm:m<=k):c6 2 (.sl id off k 2) none (some (gi m))=some (.sl id off m 2,.none,[]):=by
 simp[c6,bound,asNat,hm]
def gN:SC:=
 ai [ai [ag [af 29 5,af 30 4,aM 31 30,aS 32 .lss 29 31],bO 32 (.exit 2)],.block 3 (ai [ag [af 35 4,af 36 5,aL 37 2 35 36,aV 38 2 37,af 39 4,af 40 5,aI 41 .sub 40 1,aL 42 2 39 41,aV 43 2 42,((some 44),.op (.old (.binOp .neq 120 (.tmp 38) (.tmp 43) 120) 4))],aX 44 (ai [ag [af 45 0,af 46 3,af 47 4,af 48 5,aL 49 2 47 48,aV 50 2 49,aL 51 2 45 46,cz 2 51 50],ag [af 52 3,aI 53 .add 52 1,af 3 53]])]),ag [af 33 5,aI 34 .add 33 1,af 5 34]]
def gM:SC:=
 ai [ai [ag [af 10 3,af 11 0,aM 12 11,aS 13 .lss 10 12],bO 13 (.exit 0)],.block 1 (ai [ag [af 16 0,af 17 3,aL 18 2 16 17,aV 19 2 18,af 20 0,af 21 3,aI 22 .sub 21 1,aL 23 2 20 22,aV 24 2 23,((some 25),.op (.old (.binOp .eql 120 (.tmp 19) (.tmp 24) 120) 4))],aX 25 (ai [ag [af 26 0,af 27 3,((some 28),.op (.slice 2 (.tmp 26) (some (.tmp 27)) none)),af 4 28],ai [ag [aT 5 1],bR 2 gN],ag [af 54 0,af 55 3,((some 56),.op (.slice 2 (.tmp 54) (some (.tmp 55)) none)),(none,.op (.old (.call { callee:=.builtin .clear,args:=#[(.tmp 56)],argTypes:=#[103] }) 0))],ag [af 57 0,af 58 3,((some 59),.op (.slice 2 (.tmp 57) none (some (.tmp 58)))),af 2 59],.ret])]),ag [af 14 3,aI 15 .add 14 1,af 3 15]]
def ig:SF:=⟨ai [ag [bL 2 1],ai [ag [af 6 0,aM 7 6,aI 8 .lss 7 2],aX 8 (ai [ag [af 9 0,af 2 9],.ret])],ai [ag [aT 3 1],bR 0 gM],ag [af 60 0,af 2 60],.ret],
 [.tmp 2],61⟩
theorem k8:aJ aa 192 []=some ig:=by kernel_rfl
def Dl:SF:=⟨ai [ag [bL 2 1],ag [af 3 0,lG 4 190 [(.tmp 3),(.val (.fn 191 [] []))]],ag [af 5 0,aU 6 192 [5],af 2 6],.ret],
 [.tmp 2],7⟩
theorem G3:aJ aa 124 []=some Dl:=by kernel_rfl
theorem vf {l:List aP} {i:Nat} (h:i<l.length):(bh l).getD i []=[gi (l.getD i iR).aB,gi (l.getD i iR).dot]:=tt (getD_some h)
theorem Qn (l:List aP) (i j:Nat) (x d:aP) (hi:i<l.length):(l.set i x).getD j d=if i=j then x else l.getD j d:=by
 rw[IG]
 by_cases e:i=j
 .rw[abb ⟨e,hi⟩,abb e]
 .rw[aa9 (λh=>e h.1),aa9 e]
theorem PL (l:List aP) (U:l.length<=100000) (u:V) (H:View) (C:aN H u 2 (bh l)):az aa 192 [u] H λr H'=>(∀id,owner u≠some id->H' id=H id)/\aN H' r 2 (bh (gw l l.length))/\owner r=owner u:=by
 refine az.cut (K:=λr H'=>(H'=H/\r=u/\gw l l.length=l)∨∃id rest,u=.sl id 0 l.length 2/\r=.sl id 0 (gw l l.length).length 2/\H'=H.set id (.arr 2 (bh (gw l l.length)++rest))) ?_ ?_
 rotate_left
 .rintro r H' (⟨rfl,rfl,e⟩ | ⟨id,rest,rfl,rfl,rfl⟩)
  .exact .inl ⟨λ_ _=>rfl,by rw[e];exact C,rfl⟩
  .refine .inr ⟨id,2,bh (gw l l.length),rest,by simp[View.set],λj L=>?_,?_,rfl⟩
   .rw[set_set]
    simp only[View.set]
    rw[aa9 (λe=>L (by rw[e];rfl))]
   .rw[set_set]
    exact .inr ⟨id,by rw[bT],by simp[View.set]⟩
 refine az.of mixed k8 ?_
 have hlen:cE u=some l.length:=by rw[C.len,bT]
 simp(disch:=omega)only[↓wr,seval,wq,ig,hlen]
 apply ao.dec<;>intro n
 .simp(disch:=omega)only[↓wr,seval,wq]
  left
  try refine⟨rfl,rfl,?_⟩
  match l,n with
  | [],_=>rfl
  | [x],_=>rfl
  | _::_::_,n=>simp at n;omega
 obtain⟨id,hu,t⟩:=C.sl (by rw[bT];omega)
 rw[bT] at hu
 subst hu
 simp(disch:=omega)only[↓wr,seval,wq]
 refine aW.up (l.length-1) (λi T H'=>H=H'/\(∀j,0<j->j<i+1->l.getD j iR≠l.getD (j-1) iR)/\T 0=.sl id 0 l.length 2/\T 3=gi ((i+1:Nat):Int)) ⟨rfl,λj h1 n=>by omega,rfl,rfl⟩ ?_
 rintro i k T _ hk ⟨rfl,o,t0,t3⟩
 simp(disch:=omega)only[↓wr,seval,wq,gM,t0,t3]
 apply ao.dec<;>intro O
 rotate_left
 .simp(disch:=omega)only[↓wr,seval,wq,t0]
  left
  try refine⟨rfl,rfl,?_⟩
  rw[Cu l _ (abg _) (λj h1 n=>o j h1 (by omega)),acu]
 have D:i+1<l.length:=by omega
 have P:(((i+1:Nat):Int)-1)=(i:Int):=by omega
 simp(disch:=omega)only[↓wr,seval,wq,t0,t3,t,vf D,vf (show i<l.length by omega),P]
 refine⟨by omega,by rw[bT];omega,?_⟩
 refine⟨by omega,by rw[bT];omega,?_⟩
 generalize M:l.getD (i+1) iR=x
 generalize N:l.getD i iR=y
 refine kn (xs:=#[.int .i64 x.aB,.int .i64 x.dot]) (ys:=#[.int .i64 y.aB,.int .i64 y.dot]) Tryz.underlying120 (by kernel_rfl) (by kernel_rfl) ?_ ?_ (sQ x y) (.inl ⟨rfl,rfl⟩) ?_
 .rfl
 .rfl
 rw[Bw]
 simp(disch:=omega)only[↓wr,seval,wq]
 apply ao.dec<;>intro heq
 rotate_left
 .simp(disch:=omega)only[↓wr,seval,wq,t0,t3]
  refine aF hk (by omega) ⟨rfl,λj h1 n=>?_,t0,by push_cast;rfl⟩
  rcases abH j (i+1) with q | q
  .exact o j h1 q
  .have:j=i+1:=by omega
   subst this
   rw[Nat.add_sub_cancel,M,N];exact heq
 have g:gw l (i+1+1)=l.take (i+1):=by
  rw[gw,aa9,Cu l (i+1) (by omega) o]
  rw[Nat.add_sub_cancel,M,N]
  simp[heq]
 simp(disch:=omega)only[↓wr,seval,wq,t0,t3,BF (id:=id) (off:=0) (k:=l.length) (m:=i+1) (by omega)]
 refine aW.up (l.length-(i+1)-1) (λi2 T H'=>∃(a:Nat) (cur:List aP),H'=H.set id (.arr 2 (bh cur))/\cur.length=l.length/\i+1<=a/\a<=i+1+i2/\cur.take a=gw l (i+1+(i2+1))/\(∀j,a<=j->cur.getD j iR=l.getD j iR) /\
  T 0=.sl id 0 l.length 2/\T 3=gi a/\T 4=.sl id (i+1) (l.length-(i+1)) 2/\T 5=gi ((i2+1:Nat):Int)) ⟨i+1,l,?_,rfl,abg _,by omega,by rw[g],λ_ _=>rfl,t0,t3,?_,rfl⟩ ?_
 .funext j;simp only[View.set];split
  .rename_i e;rw[e,t]
  .rfl
 .rfl
 clear t0 t3 hk
 rintro i2 k2 W _ v ⟨a,cur,rfl,w,Q,X,c,d,t0,t3,t4,t5⟩
 have b:(H.set id (.arr 2 (bh cur))) id=.arr 2 (bh cur):=by simp[View.set]
 simp(disch:=omega)only[↓wr,seval,wq,gN,t4,t5]
 apply ao.dec<;>intro E
 .have hp:i+1+(i2+1)<l.length:=by omega
  have R:(((i2+1:Nat):Int)-1)=(i2:Int):=by omega
  simp(disch:=omega)only[↓wr,seval,wq,t4,t5,R,vf (l:=cur) (show i+1+(i2+1)<cur.length by omega),vf (l:=cur) (show i+1+i2<cur.length by omega)]
  refine⟨by omega,by rw[bT];omega,?_⟩
  refine⟨by omega,by rw[bT];omega,?_⟩
  rw[d _ (show a<=i+1+(i2+1) by omega),d _ (show a<=i+1+i2 by omega)]
  generalize A:l.getD (i+1+(i2+1)) iR=f
  generalize F:l.getD (i+1+i2) iR=B
  refine kn (xs:=#[.int .i64 f.aB,.int .i64 f.dot]) (ys:=#[.int .i64 B.aB,.int .i64 B.dot]) Tryz.underlying120 (by kernel_rfl) (by kernel_rfl) ?_ ?_ (sQ f B) (.inr ⟨rfl,rfl⟩) ?_
  .rfl
  .rfl
  rw[Bw]
  simp(disch:=omega)only[↓wr,seval,wq]
  have h:gw l (i+1+(i2+1+1))=if f=B then gw l (i+1+(i2+1)) else gw l (i+1+(i2+1))++[f]:=by
   rw[show i+1+(i2+1+1)=(i+1+(i2+1))+1 by omega,gw,A,show i+1+(i2+1)-1=i+1+i2 by omega,F]
   by_cases e:f=B
   .rw[abb e,aa9 (by simp[e])]
   .rw[aa9 e,abb (.inr e)]
  apply ao.dec<;>intro he
  .simp(disch:=omega)only[↓wr,seval,wq,t0,t3,t5]
   rw[abb he] at h
   exact aF v (by omega) ⟨a,cur,rfl,w,Q,by omega,by rw[h];exact c,d,t0,t3,t4,by push_cast;rfl⟩
  .simp(disch:=omega)only[↓wr,seval,wq,t0,t3,t4,t5,vf (l:=cur) (show i+1+(i2+1)<cur.length by omega)]
   rw[d _ (show a<=i+1+(i2+1) by omega),A]
   have p:(bh cur).getD a []=[gi (cur.getD a iR).aB,gi (cur.getD a iR).dot]:=vf (by omega)
   have G:(bh cur).set a [gi f.aB,gi f.dot]=bh (cur.set a f):=by simp[bh,bM]
   simp(disch:=omega)only[seval,wq,p,G]
   rw[set_set]
   rw[aa9 he] at h
   refine⟨by omega,by rw[bT];omega,?_⟩
   refine⟨by omega,by rw[bT];omega,?_⟩
   refine aF v (by omega) ⟨a+1,cur.set a f,rfl,by simp[w],by omega,by omega,?_,λj L=>?_,t0,by push_cast;rfl,t4,by push_cast;rfl⟩
   .rw[h,<-c,abr,List.take_set_of_le (abg _),ac1 (by omega)];rfl
   .rw[Qn _ _ _ _ _ (by omega),aa9 (by omega)]
    exact d j (by omega)
 .have I:i+1+(i2+1)=l.length:=by omega
  rw[I] at c
  have S:l.length-a≠0:=by omega
  have p:a=(gw l l.length).length:=by rw[<-c,acb];omega
  simp(disch:=omega)only[↓wr,seval,wq,t0,t3,BF (id:=id) (off:=0) (k:=l.length) (m:=a) (by omega)]
  refine VW (id:=id) (off:=a) (len:=l.length-a) (sz:=2) (bytes:=16) (s:=2) (z:=[gi 0,gi 0]) (es:=bh cur) (by kernel_rfl) (by simp(disch:=omega)only[↓wr,seval];try rw[abX]) b (by rw[bT];omega) S ?_
  rw[set_set]
  have J:eS (bh cur) a (List.replicate (l.length-a) [gi 0,gi 0])=bh (gw l l.length)++List.replicate (l.length-a) [gi 0,gi 0]:=by
   have h1:=Bo (List.replicate (l.length-a) [gi 0,gi 0]) (bh (cur.take a)) (bh (cur.drop a)) (by simp[bh];omega)
   rw[show bh (cur.take a)++bh (cur.drop a)=bh cur by rw[bh,bh,<-abA,ac8];rfl] at h1
   rw[show (bh (cur.take a)).length=a by rw[bT,acb];omega] at h1
   rw[h1,c,aby (by simp[bh];omega),abV]
  rw[J]
  simp(disch:=omega)only[↓wr,seval,wq,t0,t3,Ly (id:=id) (off:=0) (k:=l.length) (m:=a) (by omega)]
  right
  exact⟨id,List.replicate (l.length-a) [gi 0,gi 0],rfl,by rw[p],rfl⟩
theorem OS (l:List aP) (h:l.length<=100000) (u:V) (H:View) (c:aN H u 2 (bh l)):az aa 124 [u] H λr H'=>(∀id,owner u≠some id->H' id=H id)/\aN H' r 2 (bh (Dd l))/\owner r=owner u:=by
 refine az.of mixed G3 ?_
 simp(disch:=omega)only[↓wr,seval,wq,Dl]
 refine ay.cF ((Vq l (by omega) u H c).mono ?_)
 rintro r d ⟨rfl,k2,e⟩
 simp(disch:=omega)only[↓wr,seval,wq]
 refine ay.cF ((PL (fA l) (by rw[ka];omega) u d e).mono ?_)
 rintro r i ⟨f,b,g⟩
 simp(disch:=omega)only[↓wr,seval,wq]
 rw[ka] at b
 exact⟨λid a=>by rw[f id a,k2 id a],b,g⟩
def Ce:SF:=⟨ai [ag [bZ 2 0,bL 4 1],ai [ag [af 5 1,aI 6 .eql 5 (-1)],aX 6 (ai [ag [aw 7 3 2,au 8 7,((some 9),.op (.arith .sub (.val (.val (.int .i64 (-1)))) (.tmp 8))),((some 10),.op (.bH 1 1 [(.val (.int .i64 0))] [(0,(.tmp 9))])),af 4 10],.ret])],ag [aw 11 2 2,au 12 11,af 13 1,aL 14 3 12 13,aw 15 1 14,au 16 15,af 4 16],.ret],
 [.tmp 4],17⟩
theorem Gt:aJ aa 244 [2]=some Ce:=by kernel_rfl
def DK:SF:=⟨ai [ag [bZ 2 0,bZ 3 1,aT 4 0,bb 5 false],ai [ag [aV 7 4 2,aw 8 0 3,au 9 8,aU 10 244 [7,9],af 6 10],ag [aw 11 1 3,au 12 11,af 13 6,aM 14 13,aS 15 .lss 12 14],aX 15 (ai [ag [af 16 6,aw 17 1 3,au 18 17,aL 19 1 16 18,au 20 19,af 4 20,bb 5 true],.ret])],ag [aT 4 0,bb 5 false],.ret],
 [.tmp 4,.tmp 5],21⟩
theorem HV:aJ aa 187 [2,3]=some DK:=by kernel_rfl
def DQ:SF:=⟨ai [ag [bZ 2 0,aT 4 0],ai [ag [af 5 1,aI 6 .lss 5 0],aX 6 (ai [ag [aw 7 0 2,au 8 7,aM 9 8,aI 10 .sub 9 1,af 11 1,aS 12 .sub 10 11,af 4 12],.ret])],ag [af 13 1,af 4 13],.ret],
 [.tmp 4],14⟩
theorem Hm:aJ aa 188 [2]=some DQ:=by kernel_rfl
def du:SF:=⟨ai [ag [bL 2 1],ai [ag [af 3 0,((some 4),.op (.nil true 0 (.tmp 3) (.val (.emp 1))))],aX 4 (ai [ag [bL 2 1],.ret])],ag [bL 5 2,af 6 0,eZ 7 2 16 5 6,af 2 7],.ret],
 [.tmp 2],8⟩
theorem dN:aJ aa 189 []=some du:=by kernel_rfl
def wb:SC:=
 ai [ag [aS 54 .lss 53 52],bO 54 (.exit 2),.block 3 (ai [ag [af 55 53,aL 56 3 51 53,aV 57 3 56,((some 11),.op (.alloc [(.val (.int .i64 0)),(.emp 1),(.val (.int .i64 0))])),af 10 55,cz 3 11 57],ag [aw 58 0 11,au 59 58,af 60 8,((some 61),.op (.arith .sub (.val (.val (.int .i64 (-1)))) (.tmp 60))),aS 62 .eql 59 61],aX 62 (ag [af 63 5,af 64 10,((some 65),.op (.build [(.val (.int .i64 0)),(.val (.int .i64 0))] [(0,1,(.tmp 64))])),((some 66),.op (.bH 1 2 [(.val (.int .i64 0)),(.val (.int .i64 0))] [(0,(.tmp 65))])),eZ 67 2 16 63 66,af 5 67])]),ag [aI 68 .add 53 1,af 53 68]]
def vD:SC:=
 ai [ai [ag [af 18 7,af 19 5,aM 20 19,aS 21 .lss 18 20],bO 21 (.exit 0)],.block 1 (ai [ag [aV 25 4 2,af 26 5,af 27 7,aL 28 2 26 27,aV 29 2 28,aU 30 187 [25,29],af 24 30,c7 31 0 24,c7 32 1 24,af 8 31,af 9 32],ai [.region false [⟨none,[af 33 9,cO 34 33,af 35 34]⟩,⟨(some (35,false)),[af 36 8,aI 37 .geq 36 0]⟩,⟨none,[cJ 38 35 37,af 39 38]⟩,⟨(some (39,false)),[af 40 6,af 41 8,((some 42),.op (.arith .sub (.val (.val (.int .i64 (-1)))) (.tmp 41))),aL 43 1 40 42,au 44 43]⟩,⟨none,[cJ 45 39 44]⟩],aX 45 (.exit 1)],ag [af 46 6,af 47 8,((some 48),.op (.arith .sub (.val (.val (.int .i64 (-1)))) (.tmp 47))),aL 49 1 46 48,(none,.op (.store 1 (.tmp 49) (.val (.val (.bool true)))))],ag [aw 50 2 2,au 51 50,aM 52 51,aT 53 0],bR 2 wb]),ag [af 22 7,aI 23 .add 22 1,af 7 23]]
def yR:SF:=⟨ai [ag [bZ 2 0,bL 4 1],ag [af 12 1,aU 13 189 [12],af 5 13],ag [aw 14 1 2,au 15 14,aM 16 15,((some 17),.op (.make 1 1 [(.val (.bool false))] (.tmp 16) (.tmp 16))),af 6 17],ai [ag [aT 7 0],bR 0 vD],ag [af 69 5,aU 70 124 [69],af 4 70],.ret],
 [.tmp 4],71⟩
theorem Dh:aJ aa 123 [2]=some yR:=by kernel_rfl
theorem UL (g:ak) (d : -100<=g.start/\g.start<=100) (r:Int) (hr : -1<=r/\r<(g.rules.length:Int)):aC aa 244 [.agg (aj g),gi r] (encI (bV g r)):=by
 refine aC.of (by
  intro v a;simp at a
  rcases a with rfl | rfl
  .exact bW _ (cy g)
  .exact .val _) ?_
 refine az.of mixed Gt ?_
 unfold bV
 simp(disch:=omega)only[↓wr,seval,wq,Ce,aj,encS]
 apply ao.eq<;>intro h1
 .simp(disch:=omega)only[↓wr,seval,wq]
  intro n
  rw[abb h1]
  rintro c a
  refine dF.fr (jq (l:=[-1-g.start]) (.inr ⟨n,rfl,?_⟩))
  rw[a];simp[View.set]
 .have b:g.rules[r.toNat]?=some (cd g r):=by unfold cd;exact getD_some (by omega)
  rw[aa9 h1]
  generalize cd g r=R at b
  simp(disch:=omega)only[↓wr,seval,wq,aba,b,aQ]
  intro c _
  exact .tree _ (bg R.right)
theorem K6 (g:ak) (c:g.c5) (x:aP) (b:cW g x):aC aa 187 [.agg (aj g),.agg (bM x)] (.bc [gi (bI g x).1,gb (bI g x).2]):=by
 have h1:=UL g (j8 c) x.aB b.1
 have d:=ed c b.1
 have e:=b.2
 refine aC.tree (by
  intro v a;simp at a
  rcases a with rfl | rfl
  .exact bW _ (cy g)
  .exact bW _ λv a=>by simp[bM] at a;rcases a with rfl | rfl<;>exact .val _) (.bc _ λi hi=>by
   match i,hi with
   | 0,_=>exact .val _
   | 1,_=>exact .val _) λH=>?_
 refine az.of mixed HV ?_
 simp only[aj,encS,encI] at h1
 unfold bI
 simp(disch:=omega)only[↓wr,seval,wq,DK,aj,encS,bM]
 refine ay.pure h1 ?_
 generalize bV g x.aB=R at e d ⊢
 simp(disch:=omega)only[↓wr,seval,wq]
 apply ao.dec<;>intro f
 .have h:R[x.dot.toNat]?=some (R.getD x.dot.toNat 0):=getD_some (by omega)
  simp(disch:=omega)only[↓wr,seval,wq,aba,h]
  rw[aa9 (by omega)]
 .simp(disch:=omega)only[↓wr,seval,wq]
  rw[abb (by omega)]
theorem Wx (g:ak) (b:g.c5) (s:Int) (c : -1000<=s/\s<=1000):aC aa 188 [.agg (aj g),gi s] (gi (oI g s)):=by
 have d:=b.ax
 refine aC.val (by
  intro v a;simp at a
  rcases a with rfl | rfl
  .exact bW _ (cy g)
  .exact .val _) λH=>?_
 refine az.of mixed Hm ?_
 unfold oI
 simp(disch:=omega)only[↓wr,seval,wq,DQ,aj,encS]
 apply ao.dec<;>intro h1
 .simp(disch:=omega)only[↓wr,seval,wq]
  rw[abb h1]
 .simp(disch:=omega)only[↓wr,seval,wq]
  rw[aa9 h1]
theorem b6.aaq {P:Program} {f:FuncId} {h:Heap} {u:V} (hu:∀Z μ hp x,aD Z μ hp u x->∃a cap,x=.slice a 0 cap/\(a=none->cap=0)) (h1:b6 P f [.emp 1] h (.emp 1) h) (n:b6 P f [.emp 2] h (.emp 2) h) (o:b6 P f [.eD] h (.emp 2) h):b6 P f [u] h (.emp 0) h:=by
 refine⟨abg _,λZ μ F w xs j hr d=>?_⟩
 obtain⟨p,q⟩:=j
 obtain⟨x,rfl⟩:∃x,xs=[x]:=by
  match xs,p with
  | [x],_=>exact⟨x,rfl⟩
 have r:aD Z μ w.heap u x:=q 0 (by simp)
 have one:∀v,aD Z μ w.heap v x->gI Z μ w.heap [v] [x]:=λv h=>⟨rfl,λi hi=>by
  simp at hi;subst hi;exact h⟩
 have b:∀k,b6 P f [if k=3 then .eD else .emp k] h (if k=3 then .emp 2 else .emp k) h->aD Z μ w.heap (if k=3 then .eD else .emp k) x->Calls P f [x].toArray w λe w'=>∃x g μ',e=.returned x/\aD g μ' w'.heap (.emp 0) x/\eQ g μ' w'.heap (cat h F)/\Ext Z μ w h.length g μ' w'/\(∀id,id<h.length∨h.length<=id->μ' id=μ id):=by
  intro k hk s
  refine(hk.2 Z μ F w [x] (one _ s) hr d).mono ?_
  rintro e w' ⟨y,g,μ',rfl,l,rest⟩
  refine⟨y,g,μ',rfl,?_,rest⟩
  have:∀m,aD g μ' w'.heap (.emp m) y->aD g μ' w'.heap (.emp 0) y:=λm h=>by
   cases h with | emp _ a _ _=>exact .emp 0 a (by simp) (by simp)
  split at l<;>exact this _ l
 obtain⟨a,cap,rfl,t⟩:=hu Z μ w.heap x r
 cases a with
 | none =>
  have:=t rfl
  subst this
  exact b 1 (by simpa using h1) (.emp 1 none (by simp) (by simp))
 | some a =>
  cases cap with
  | zero=>exact b 2 (by simpa using n) (.emp 2 (some a) (by simp) (by simp))
  | succ c=>exact b 3 (by simpa using o) (.eD a (c+1))
theorem RC {Z:Nat->Prop} {μ:Mu} {hp:Array Obj} {k:Nat} {x:Value} (h:aD Z μ hp (.emp k) x):∃a cap,x=.slice a 0 cap/\(a=none->cap=0):=by
 cases h with | emp _ a _ _=>exact⟨a,0,rfl,λ_=>rfl⟩
theorem Uu {Z:Nat->Prop} {μ:Mu} {hp:Array Obj} {id off esz:Nat} {x:Value} (h:aD Z μ hp (.sl id off 0 esz) x):∃a cap,x=.slice a 0 cap/\(a=none->cap=0):=by
 rcases yu h with ⟨_,a,e⟩ | ⟨b,o0,cap,c,e,f,d,_⟩
 .exact⟨a,0,e,λ_=>rfl⟩
 .exact⟨_,cap,d,λh=>by simp at h⟩
theorem Na (u:V) (hu:∀Z μ hp x,aD Z μ hp u x->∃a cap,x=.slice a 0 cap/\(a=none->cap=0)) (h:Heap):b6 aa 189 [u] h (.emp 0) h:=by
 have hp:∀v t,Tree v->Tree t->(∀H,az aa 189 [v] H λr _=>r=t)->aC aa 189 [v] t:=λv t c d h=>aC.tree (by intro x b;simp at b;subst b;exact c) d h
 have h1:=hp (.emp 1) (.emp 1) (.emp 1) (.emp 1) (λH=>by
  refine az.of mixed dN ?_
  simp(disch:=omega)only[↓wr,seval,wq,du])
 have e:=hp (.emp 2) (.emp 2) (.emp 2) (.emp 2) (λH=>by
  refine az.of mixed dN ?_
  simp(disch:=omega)only[↓wr,seval,wq,du,jY])
 have f:=hp .eD (.emp 2) .eD (.emp 2) (λH=>by
  refine az.of mixed dN ?_
  simp(disch:=omega)only[↓wr,seval,wq,du,sC,jY])
 exact b6.aaq hu (b6.hX h1 h) (b6.hX e h) (b6.hX f h)
theorem Qd (l:List aP) (d:l.length<=100000) (u:V) (H:View) (b:aN H u 2 (bh l)):az aa 189 [u] H λr H'=>aN H' r 2 (bh l)/\cn H H' r:=by
 cases l with
 | nil =>
  refine⟨by kernel_rfl,?_⟩
  rintro h rfl
  refine⟨.emp 0,h,Na u (λZ μ hp x c=>?_) h,.refl _,.nil,.emp⟩
  rcases b with ⟨_,k,rfl⟩ | ⟨n,rfl,_⟩
  .exact RC c
  .exact Uu c
 | cons x r =>
  obtain⟨id,hu,a⟩:=b.sl (by rw[bT];simp)
  subst hu
  refine az.of mixed dN ?_
  have he:=j6 (H:=H) id 0 r.length 2 2 (bh (x::r)) a (by rw[bT];simp)
  rw[ab8,abo (by rw[bT];simp)] at he
  simp only[abl] at d
  have hlen:(bh (x::r)).length=r.length+1:=by rw[bT];rfl
  rw[hlen]
  simp(disch:=omega)only[↓wr,seval,wq,du,he]
  refine dw (es:=[]) (.inl ⟨rfl,2,rfl⟩) (by simp[bh,bM,aK]) (by unfold aE;rw[hlen];simp;omega) (by unfold aE;rw[hlen];simp;omega) ?_
  intro i m e f
  simp(disch:=omega)only[↓wr,seval,wq]
  refine⟨by simpa using e,λj g=>?_⟩
  exact f j g (by simp[owner])
def dY (ks:List Nat):List aP:=ks.map λ(k:Nat)=>(⟨k,0⟩:aP)
theorem BD {a:List Nat} {n:Nat} (h:a.Nodup) (hk:∀k∈a,k<n):a.length<=n:=by
 have:=sX a (List.range n) h λx b=>ab7.2 (hk x b)
 simpa using this
theorem Sz {l:List Bool} {i:Nat} (h:i<l.length):(bU l).getD i []=[gb (l.getD i false)]:=by
 simp[h]
structure TZ (g:ak) (l:List aP) (H H':View) (i:Nat) (r su:V) (ks:List Nat) (seen:List Bool):Prop where
 own:bw H' [(r,2,bh (l++dY ks)),(su,1,bU seen)]
 f1:cn H H' r
 f2:cn H H' su
 nd:ks.Nodup
 kl:∀k∈ks,k<g.rules.length
 sl:seen.length=g.av.length
 s1:∀(n k:Nat) (R:bf),seen.getD n false=true->g.rules[k]?=some R->R.left=n->k∈ks
 s2:∀(k:Nat) (R:bf),k∈ks->g.rules[k]?=some R->seen.getD R.left.toNat false=true
 cl:∀x∈l++dY ks,oX g l x
 dn:∀(j:Nat) (x:aP) (s:Int),j<i->(l++dY ks)[j]?=some x->bI g x=(s,true)->s<0->seen.getD (-1-s).toNat false=true
 il:i<=(l++dY ks).length
theorem TZ.len {g:ak} {l:List aP} {H H':View} {i:Nat} {r b:V} {a:List Nat} {seen:List Bool} (h:TZ g l H H' i r b a seen):a.length<=g.rules.length/\(l++dY a).length=l.length+a.length:=by
 refine⟨BD h.nd h.kl,by simp[dY]⟩
def AcJ (g:ak) (l:List aP) (H:View) (m:Nat) (T:Env) (H':View):Prop:=∃(i:Nat) (r su:V) (ks:List Nat) (seen:List Bool),m=l.length+g.rules.length-i/\TZ g l H H' i r su ks seen/\T 2=.aR (aj g) 0/\T 5=r/\T 6=su/\T 7=gi i
theorem Nl (g:ak) (X:g.c5) (l:List aP) (hl:∀x∈l,cW g x) (P:l.length<=10000) (u:V) (H:View) (ho:aN H u 2 (bh l)):az aa 123 [.agg (aj g),u] H λr H'=>aN H' r 2 (bh (dx g l))/\cn H H' r:=by
 refine az.of mixed Dh ?_
 have b9:=X.rules
 have ca:=X.av
 simp(disch:=omega)only[↓wr,seval,wq,yR,aj,encS]
 refine ay.cF ((Qd l (by omega) u H ho).mono ?_)
 rintro r H1 ⟨o1,f1⟩
 simp(disch:=omega)only[↓wr,seval,wq]
 refine⟨⟨abg _,by unfold aE;omega,by unfold aE;omega⟩,λY=>?_,λY q z=>?_⟩
 .exact absurd (by have:=X.ly;omega) (show ¬ g.av.length=0 by have:=X.ly;omega)
 have ae:TZ g l H (H1.set q (.arr 1 (List.replicate g.av.length [gb false]))) 0 r (.sl q 0 g.av.length 1) [] (List.replicate g.av.length false):=by
  have e:List.replicate g.av.length [gb false]=bU (List.replicate g.av.length false):=by simp
  have b1:bw H1 [(r,2,bh l)]:=⟨λx C=>by simp at C;subst C;exact o1,by
   cases hr:owner r<;>simp[hr]⟩
  have b2:H q=.dead∨H q≠.dead:=by cases H q<;>simp
  have E:H q=.dead:=by
   rcases b2 with h | h
   .exact h
   .have:=(f1 q h).1;rw[z] at this;exact absurd this.symm h
  refine⟨?_,λid c=>?_,λid c=>?_,.nil,by simp,by simp,λn k R h=>?_,by simp,λx C=>.base (by simpa [dY] using C),λj x s h=>by omega,aco _⟩
  .have N:=(b1.new z 1 (List.replicate g.av.length [gb false])).perm (.swap _ _ _)
   rw[ac6] at N
   rw[e] at N ⊢
   simpa [dY] using N
  .have Q:id≠q:=by rintro rfl;exact c E
   exact⟨by simp only[View.set];rw[aa9 Q];exact(f1 id c).1,(f1 id c).2⟩
  .have Q:id≠q:=by rintro rfl;exact c E
   exact⟨by simp only[View.set];rw[aa9 Q];exact(f1 id c).1,by simp[owner,Ne.symm Q]⟩
  .simp only[aa7,ab0] at h
   split at h<;>simp at h
 generalize H1.set q (.arr 1 (List.replicate g.av.length [gb false]))=H2 at ae ⊢
 refine aW.intro (AcJ g l H) (l.length+g.rules.length) ⟨0,r,_,[],_,by omega,ae,rfl,rfl,rfl,rfl⟩ ?_
 clear ae o1 f1 z
 rintro m T H' ⟨i,r,J,w,seen,rfl,d,t2,t5,t6,t7⟩
 obtain⟨cb,cc⟩:=d.len
 have b3:cE r=some (l++dY w).length:=by rw[d.own.head.len,bT]
 simp(disch:=omega)only[↓wr,seval,wq,vD,t5,t7,b3]
 apply ao.dec<;>intro hc
 rotate_left
 ·
  have hi:i=(l++dY w).length:=by have:=d.il;omega
  simp(disch:=omega)only[↓wr,seval,wq,t5]
  refine ay.cF ((OS (l++dY w) (by omega) r H' d.own.head).mono ?_)
  rintro S H3 ⟨k3,o3,e3⟩
  simp(disch:=omega)only[↓wr,seval,wq]
  have b4:dx g l=Dd (l++dY w):=EB X hl (FR _) (λx C=>d.cl x (tV.1 C)) (λx C=>tV.2 (by simp[C])) (λx C s k R h1 N O h4=>by
   obtain⟨j,hj,e⟩:=acL.1 (tV.1 C)
   have h5:=d.dn j x s (by omega) (by rw[aa8 hj,e]) h1 N
   have h6:=d.s1 _ k R h5 O (by omega)
   exact tV.2 (List.mem_append_right _ (abt.2 ⟨k,h6,rfl⟩)))
  rw[b4]
  refine⟨o3,λid c=>?_⟩
  obtain⟨q1,q2⟩:=d.f1 id c
  exact⟨by rw[k3 id q2,q1],by rw[e3];exact q2⟩
 have C:(l++dY w)[i]?=some ((l++dY w)[i]'(by omega)):=aa8 (by omega)
 have a1:=abe (show i<(l++dY w).length by omega)
 have cf:=d.dn
 generalize (l++dY w)[i]'(by omega)=x at C a1
 have a6:=d.cl x a1
 have al:=a6.has hl
 have h1:=K6 g X x al
 cases F:bI g x with
 | mk s a7 =>
 have ch:=AH X al F
 rw[F] at h1
 obtain⟨id,hu,c⟩:=d.own.head.sl (by rw[bT];omega)
 simp only at hu c
 rw[bT] at hu
 simp only[aj,encS,bM] at h1
 simp(disch:=omega)only[↓wr,seval,wq,t2,t5,t7,hu,c,tt C,aj,encS]
 refine⟨by omega,by rw[bT];omega,?_⟩
 refine ay.pure h1 ?_
 have skip:(a7=true->s<0->seen.getD (-1-s).toNat false=true)->TZ g l H H' (i+1) r J w seen:=λh =>
  ⟨d.own,d.f1,d.f2,d.nd,d.kl,d.sl,d.s1,d.s2,d.cl,λj y t hj I P Y=>by
   rcases abH j i with q | q
   .exact d.dn j y t q I P Y
   .have:j=i:=by omega
    subst this
    rw[C] at I
    simp only[abd] at I
    subst I
    rw[F] at P
    simp only[abz] at P
    obtain⟨rfl,rfl⟩:=P
    exact h rfl Y,by omega⟩
 cases a7 with
 | false =>
  simp(disch:=omega)only[↓wr,seval,wq,t5,t7]
  exact⟨l.length+g.rules.length-(i+1),by omega,i+1,r,J,w,seen,rfl,skip (by simp),t2,by rw[<-hu];exact t5,t6,rfl⟩
 | true =>
 simp(disch:=omega)only[↓wr,seval,wq]
 apply ao.dec<;>intro Y
 .simp(disch:=omega)only[↓wr,seval,wq,t5,t7]
  exact⟨l.length+g.rules.length-(i+1),by omega,i+1,r,J,w,seen,rfl,skip (λ_ h=>by omega),t2,by rw[<-hu];exact t5,t6,rfl⟩
 have hG:=vA X al F
 have a8:(-1-s).toNat<g.av.length:=by
  unfold dS at hG
  rw[aa9 (by omega)] at hG
  simp at hG;omega
 obtain⟨K,A,L⟩:=d.own.tail.head.sl (by simp[d.sl];omega)
 simp only at A L
 rw[abc,d.sl] at A
 have U:(-1-s).toNat<seen.length:=by rw[d.sl];exact a8
 simp(disch:=omega)only[↓wr,seval,wq,t6,A,L,Sz U]
 refine⟨by omega,by simp[d.sl];omega,?_⟩
 apply ao.split<;>intro N
 .simp(disch:=omega)only[↓wr,seval,wq,t5,t7]
  exact⟨l.length+g.rules.length-(i+1),by omega,i+1,r,J,w,seen,rfl,skip (λ_ _=>N),t2,by rw[<-hu];exact t5,by rw[<-A];exact t6,rfl⟩
 obtain⟨n,P⟩:∃n:Nat,-1-s=(n:Int):=⟨(-1-s).toNat,by omega⟩
 have bd:(-1-s).toNat=n:=by omega
 rw[bd] at a8 U N
 have b5:(bU seen).set n [gb true]=bU (seen.set n true):=by simp
 simp(disch:=omega)only[↓wr,seval,wq,t2,t6,A,L,aj,encS,P,Sz U,b5]
 refine⟨by omega,by simp[d.sl];omega,?_⟩
 have an:∀m,(seen.set n true).getD m false=if n=m then true else seen.getD m false:=λm=>by
  rw[IG]
  by_cases e:n=m
  .rw[abb ⟨e,U⟩,abb e]
  .rw[aa9 (λh=>e h.1),aa9 e]
 have o2:bw (H'.set K (.arr 1 (bU (seen.set n true)))) [(r,2,bh (l++dY w)),(J,1,bU (seen.set n true))]:=by
  have O:=d.own.perm (.swap _ _ _)
  rw[A] at O ⊢
  exact(O.put (es':=bU (seen.set n true)) (by simp) (by simp[d.sl])).perm (.swap _ _ _)
 have M:∀id,H id≠.dead->id≠K:=λid c e=>by
  have:=(d.f2 id c).2
  rw[A,e] at this
  exact this rfl
 have aq:cn H (H'.set K (.arr 1 (bU (seen.set n true)))) r:=λid c=>⟨by simp only[View.set];rw[aa9 (M id c)];exact(d.f1 id c).1,(d.f1 id c).2⟩
 have ar:cn H (H'.set K (.arr 1 (bU (seen.set n true)))) J:=λid c=>⟨by simp only[View.set];rw[aa9 (M id c)];exact(d.f2 id c).1,(d.f2 id c).2⟩
 generalize H'.set K (.arr 1 (bU (seen.set n true)))=H4 at o2 aq ar ⊢
 refine aW.up g.rules.length (λk T Z=>∃(S:V) (f:List Nat),f=w++(List.range k).filter (λ(q:Nat)=>decide ((cd g q).left=n))/\bw Z [(S,2,bh (l++dY f)),(J,1,bU (seen.set n true))]/\cn H Z S/\cn H Z J /\
  T 2=.aR (aj g) 0/\T 5=S/\T 6=J/\T 7=gi i/\T 8=gi s/\T 51=.aY (g.rules.map aQ)/\T 52=gi g.rules.length/\T 53=gi k) ⟨r,w,by simp,o2,aq,ar,t2,by rw[<-hu];exact t5,by rw[<-A];exact t6,t7,rfl,rfl,rfl,rfl⟩ ?_
 clear t2 t5 t6 t7 o2 aq ar
 rintro k j T5 Z hk ⟨S,f,G,o5,f5,g5,t2,t5,t6,t7,t8,t51,t52,t53⟩
 have bl:∀q,q∈w->¬ (cd g q).left=n:=λq z e=>by
  have hR:g.rules[q]?=some (cd g q):=by unfold cd;exact getD_some (d.kl q z)
  have:=d.s2 q _ z hR
  rw[e] at this
  simp only[abM] at this
  rw[N] at this;simp at this
 have ab:f.Nodup:=by
  rw[G,acH]
  refine⟨d.nd,(List.nodup_range).filter _,λa ha b hb e=>?_⟩
  subst e
  exact bl a ha (by simpa using (acr.1 hb).2)
 simp(disch:=omega)only[↓wr,seval,wq,wb,t52,t53]
 apply ao.dec<;>intro b7
 .have hR:g.rules[k]?=some (cd g k):=by unfold cd;exact getD_some (by omega)
  have bn:∀q∈f,q<g.rules.length:=λq z=>by
   rw[G] at z
   rcases abq.1 z with h | h
   .exact d.kl q h
   .have:=ab7.1 (acr.1 h).1;omega
  have cj:=BD ab bn
  have p:w++(List.range (k+1)).filter (λ(q:Nat)=>decide ((cd g q).left=n))=if (cd g k).left=n then f++[k] else f:=by
   rw[acD,adk,<-ace,<-G]
   by_cases e:(cd g k).left=n<;>simp[e]
  generalize cd g k=R at hR p
  simp(disch:=omega)only[↓wr,seval,wq,t8,t51,t53,aba,hR,aQ]
  intro q z
  rw[set_set]
  have br:(Z.set q (.arr 3 [[gi R.left,encI R.right,gi R.prec]])) q=.arr 3 [[gi R.left,encI R.right,gi R.prec]]:=by simp[View.set]
  have E:∀id,H id≠.dead->id≠q:=λid c e=>by
   have:=(f5 id c).1
   rw[e,z] at this
   exact c (by rw[e];exact this.symm)
  have o6:=o5.fresh (o:=.arr 3 [[gi R.left,encI R.right,gi R.prec]]) z
  have f6:cn H (Z.set q (.arr 3 [[gi R.left,encI R.right,gi R.prec]])) S:=λid c=>⟨by simp only[View.set];rw[aa9 (E id c)];exact(f5 id c).1,(f5 id c).2⟩
  have g6:cn H (Z.set q (.arr 3 [[gi R.left,encI R.right,gi R.prec]])) J:=λid c=>⟨by simp only[View.set];rw[aa9 (E id c)];exact(g5 id c).1,(g5 id c).2⟩
  generalize Z.set q (.arr 3 [[gi R.left,encI R.right,gi R.prec]])=H6 at br o6 f6 g6
  clear o5 f5 g5 z E
  simp(disch:=omega)only[seval,P]
  refine⟨rfl,?_⟩
  apply ao.eq<;>intro he
  .simp(disch:=omega)only[↓wr,seval,wq,t5]
   intro q2 bs
   simp(disch:=omega)only[↓wr,seval,wq,bD]
   have D:∀id,H id≠.dead->id≠q2:=λid c e=>by
    have:=(f6 id c).1
    rw[e,bs] at this
    exact c (by rw[e];exact this.symm)
   refine dC (o6.fresh bs) (by simp[aK]) (by unfold aE;rw[bT];simp[dY];omega) (by unfold aE;rw[bT];simp[dY];omega) ?_
   intro r3 H7 o7 l7
   simp(disch:=omega)only[↓wr,seval,wq,t7,t53]
   rw[abb he] at p
   have f7:∀v,cn H H6 v->(∀id,owner v=some id->owner S≠some id/\owner r3≠some id)->cn H H7 v:=λv hv ck id c=>by
    obtain⟨e1,e2⟩:=hv id c
    obtain⟨k1,k2⟩:=l7 id (by simp only[View.set];rw[aa9 (D id c),e1];exact c) (f6 id c).2
    refine⟨?_,e2⟩
    rw[k1]
    simp only[View.set]
    rw[aa9 (D id c),e1]
   have f8:cn H H7 r3:=λid c=>by
    obtain⟨e1,e2⟩:=f6 id c
    obtain⟨k1,k2⟩:=l7 id (by simp only[View.set];rw[aa9 (D id c),e1];exact c) e2
    refine⟨?_,k2⟩
    rw[k1]
    simp only[View.set]
    rw[aa9 (D id c),e1]
   refine aF hk (by omega) ⟨r3,f++[k],p.symm,?_,f8,λid c=>⟨(f8 id c).1,(g6 id c).2⟩,t2,rfl,t6,t7,t8,t51,t52,rfl⟩
   have e1:bh (l++dY (f++[k]))=bh (l++dY f)++[[gi k,gi 0]]:=by simp[bh,dY,bM]
   rw[e1]
   exact o7
  .simp(disch:=omega)only[↓wr,seval,wq,t5,t7,t53]
   rw[aa9 he] at p
   exact aF hk (by omega) ⟨S,f,p.symm,o6,f6,g6,t2,t5,t6,t7,t8,t51,t52,rfl⟩
 .have b8:k=g.rules.length:=by omega
  subst b8
  simp(disch:=omega)only[↓wr,seval,wq,t5,t7]
  have B:∀q,q∈f↔q∈w∨(q<g.rules.length/\(cd g q).left=n):=λq=>by
   rw[G,abq,acr,ab7,abn]
  have bx:∀(q:Nat) (R:bf),g.rules[q]?=some R->cd g q=R:=λq R h=>by
   unfold cd
   rw[abM,aa7,h];rfl
  have b0:∀(j:Nat),j<=i->(l++dY f)[j]?=(l++dY w)[j]?:=λj hj=>by
   rw[G,dY,abA,<-ace]
   exact abF (by simp only[dY] at hc;omega)
  refine⟨l.length+g.rules.length-(i+1),by omega,i+1,S,J,f,seen.set n true,rfl,⟨o5,f5,g5,ab,λq z=>?_,by rw[acO];exact d.sl,λm q R O h4 h5=>?_,λq R O h4=>?_,λy I=>?_,λj y t hj I W Y=>?_,?_⟩,t2,t5,t6,rfl⟩
  .rcases (B q).1 z with h | h
   .exact d.kl q h
   .exact h.1
  .rw[an] at O
   split at O
   .rename_i e
    subst e
    exact(B q).2 (.inr ⟨(abf.1 h4).1,by rw[bx q R h4];exact h5⟩)
   .exact(B q).2 (.inl (d.s1 m q R O h4 h5))
  .rw[an]
   rcases (B q).1 O with h | h
   .split
    .rfl
    .exact d.s2 q R h h4
   .rw[bx q R h4] at h
    rw[h.2,abM,abb rfl]
  .rcases abq.1 I with h | h
   .exact d.cl y (List.mem_append_left _ h)
   .obtain⟨q,z,rfl⟩:=abt.1 h
    rcases (B q).1 z with h | h
    .exact d.cl _ (List.mem_append_right _ (abt.2 ⟨q,h,rfl⟩))
    .have hR:g.rules[q]?=some (cd g q):=by unfold cd;exact getD_some h.1
     exact .step a6 F (by omega) hR (by rw[h.2,P])
  .rw[b0 j (by omega)] at I
   rw[an]
   rcases abH j i with q | q
   .split
    .rfl
    .exact d.dn j y t q I W Y
   .have:j=i:=by omega
    subst this
    rw[C] at I
    simp only[abd] at I
    subst I
    rw[F] at W
    simp only[abz,and_true] at W
    subst W
    rw[bd,abb rfl]
  .rw[G,dY,abA,<-ace,abv]
   simp only[dY] at hc
   omega
def jd (l:List UInt8):Value:=.string ⟨l.toArray⟩
theorem Kv {a b:List UInt8} : ((⟨a.toArray⟩:ByteArray)==⟨b.toArray⟩)=(a==b):=by
 show (a.toArray==b.toArray)=_
 simp
theorem Mx {P:Program} {kt:TypeId} (h:P.underlying kt=some .string):Ek P kt jd where
 ty:=⟨_,h,λa b=>by simp only[Instr.sameNow,jd,Kv],λa e=>zK h trivial e 9999 _⟩
 bits:=λa b c=>by
  have:a=b:=by simpa using c
  subst this
  show ((⟨a.toArray⟩:ByteArray)==⟨a.toArray⟩)=true
  rw[Kv];simp
def se (l:List aP):List Int:=l.flatMap λx=>[x.aB+1,x.dot]
theorem V6 (l:List aP):(se l).length=2*l.length:=by
 induction l with
 | nil=>rfl
 | cons x l a=>simp only[se,List.flatMap_cons,abv,abl,abG] at a ⊢;omega
theorem FH:∀l:List aP,mJ ((se l).map λn=>[gy n])=some (gU l)
 | []=>rfl
 | x::l=>by
  have a:=FH l
  simp only[se,gU,List.flatMap_cons,abN,ab3,abE,mJ] at a ⊢
  rw[a];rfl
theorem W8 {x:Int} (h1:0<=x) (c:x<256):IntKind.wrap .u8 x=x:=by
 unfold IntKind.wrap
 have a:(2:Int) ^ IntKind.u8.bits=256:=by rfl
 have b:IntKind.u8.signed=false:=by rfl
 simp only[a,b,acq,abI,if_false]
 omega
theorem Yw {P:Program} {T:Env} {H:View} {K:V->View->Prop} {w:dd (T,H,K)} {t e d ty:TypeId} {x:Operand} {u:V} {xs:List (List V)} {rd:List Nat} {l:List UInt8} {k:Nat} (hu:P.underlying t=some (.slice e)) (he:P.underlying e=some (.int .u8)) (a:P.underlying d=some .string)
  (b:ev T x=u) (c:bQ H u=some (xs,rd)) (f:cE u=some k) (g:mJ xs=some l) (hk:K (.val (jd l)) H):kb P (.convert t d x) ty T H K w:=by
 intro n _
 have h:mD P t d=true:=by simp[mD,hu]
 refine⟨.val (jd l),.none,rd,?_,hk⟩
 simp only[sI,cL,oper]
 rw[abb h,b]
 simp[oZ,hu,he,a,c,f,g,jd]
def yP:SC:=
 ai [ag [aS 15 .lss 14 13],bO 15 (.exit 0),.block 1 (ai [ag [aL 16 2 12 14,aV 17 2 16,((some 7),.op (.alloc [(.val (.int .i64 0)),(.val (.int .i64 0))])),cz 2 7 17],ag [aV 19 4 2,aV 20 2 7,aU 21 187 [19,20],af 18 21,c7 22 0 18,c7 23 1 18,af 8 22,af 9 23],ag [af 24 9],aX 24 (ai [ag [aV 25 4 2,af 26 8,aU 27 188 [25,26],af 10 27],ag [af 28 5,af 29 10,af 30 5,af 31 10,((some 32),.op (.old (.lookup 209 (.tmp 30) (.tmp 31) false) 103)),aw 33 0 7,au 34 33,aw 35 1 7,au 36 35,aI 37 .add 36 1,((some 38),.op (.build [(.val (.int .i64 0)),(.val (.int .i64 0))] [(0,1,(.tmp 34)),(1,1,(.tmp 37))])),((some 39),.op (.bH 1 2 [(.val (.int .i64 0)),(.val (.int .i64 0))] [(0,(.tmp 38))])),eZ 40 2 16 32 39,(none,.op (.old (.mapUpdate 209 (.tmp 28) (.tmp 29) (.tmp 40)) 0))]])]),ag [aI 41 .add 14 1,af 14 41]]
def By:SF:=⟨ai [ag [bZ 2 0,((some 4),.op (.eW (.val (.val (.map none)))))],ag [((some 11),.op (.ra)),af 5 11],ai [ag [af 12 1,aM 13 12,aT 14 0],bR 0 yP],ag [af 42 5,af 4 42],.ret],
 [.tmp 4],43⟩
theorem FI:aJ aa 122 [2]=some By:=by kernel_rfl
def Cm:SC:=
 ai [ag [aS 9 .lss 8 7],bO 9 (.exit 0),.block 1 (ai [ag [aL 10 2 6 8,aV 11 2 10,((some 5),.op (.alloc [(.val (.int .i64 0)),(.val (.int .i64 0))])),cz 2 5 11],ag [af 12 3,aw 13 0 5,au 14 13,aI 15 .add 14 1,((some 16),.op (.conv .u8 (.tmp 15))),aw 17 1 5,au 18 17,((some 19),.op (.conv .u8 (.tmp 18))),((some 20),.op (.bH 2 1 [(.val (.int .u8 0))] [(0,(.tmp 16)),(1,(.tmp 19))])),eZ 21 1 1 12 20,af 3 21]]),ag [aI 22 .add 8 1,af 8 22]]
def E3:SF:=⟨ai [.region false [⟨none,[((some 2),.op (.eW (.val (.val (.string ⟨#[]⟩)))))]⟩],ag [bL 3 1],ai [ag [af 6 0,aM 7 6,aT 8 0],bR 0 Cm],ag [af 23 3,((some 24),.op (.old (.convert 90 9 (.tmp 23)) 9)),af 2 24],.ret],
 [.tmp 2],25⟩
theorem JU:aJ aa 121 []=some E3:=by kernel_rfl
theorem MG (g:ak) (K:g.c5) (l:List aP) (M:∀x∈l,cW g x) (C:l.length<=10000) (u:V) (H:View) (L:aN H u 2 (bh l)):az aa 121 [u] H λr H'=>r=.val (jd (gU l))/\∀id,H id≠.dead->H' id=H id:=by
 refine az.of mixed JU ?_
 have hlen:cE u=some l.length:=by rw[L.len,bT]
 have N:=K.rules
 simp(disch:=omega)only[↓wr,seval,wq,E3,hlen]
 refine aW.up l.length (λi T H'=>∃b:V,aN H' b 1 ((se (l.take i)).map λn=>[gy n])/\cn H H' b/\T 3=b/\T 6=u/\T 7=gi l.length/\T 8=gi i) ⟨.emp 1,.nil,.emp,rfl,rfl,rfl,rfl⟩ ?_
 rintro i k T H' hk ⟨b,v,w,t3,t6,t7,t8⟩
 simp(disch:=omega)only[↓wr,seval,wq,Cm,t7,t8]
 apply ao.dec<;>intro O
 .have D:l[i]?=some (l[i]'(by omega)):=aa8 (by omega)
  have f:=M _ (abe (show i<l.length by omega))
  have z:l.take (i+1)=l.take i++[l[i]'(by omega)]:=by rw[abr,D];rfl
  generalize l[i]'(by omega)=x at D f z
  have P:=ed K f.1
  have Q:=f.1
  have R:=f.2
  obtain⟨id,hu,a⟩:=L.sl (by rw[bT];omega)
  have A:H' id=.arr 2 (bh l):=by rw[(w id (by rw[a];simp)).1,a]
  rw[bT] at hu
  subst hu
  have E:=V6 (l.take i)
  rw[acb] at E
  simp(disch:=omega)only[↓wr,seval,wq,t3,t6,t8,A,tt D,W8 (x:=x.aB+1) (by omega) (by omega),W8 (x:=x.dot) (by omega) (by omega)]
  refine⟨by omega,by rw[bT];omega,?_⟩
  intro q B o F
  obtain⟨G,p⟩:=cp F (by simp)
  rw[aa9 G] at p
  have I:∀j,H j≠.dead->j≠q/\j≠o:=λj c=>by
   have h1:=(w j c).1
   exact⟨λe=>c (by rw[e] at h1 ⊢;rw[<-h1,B]),λe=>c (by rw[e] at h1 ⊢;rw[<-h1,p])⟩
  have J:∀a0 h a2,aN (((H'.set q a0).set q h).set o a2) b 1 ((se (l.take i)).map λn=>[gy n]):=λa0 h a2=>v.keep λid a=>by
   have h1:=(v.live a).1
   have s:id≠q:=by rintro rfl;rw[B] at h1;simp at h1
   have t:id≠o:=by rintro rfl;rw[p] at h1;simp at h1
   simp[View.set,s,t]
  have m:∀a0 h a2 j,H j≠.dead->(((H'.set q a0).set q h).set o a2) j=H j:=λa0 h a2 j c=>by
   obtain⟨s,t⟩:=I j c
   simp[View.set,s,t,(w j c).1]
  have d:∀(a0 h:ct) (s t:List V),bQ (((H'.set q a0).set q h).set o (.arr 1 [s,t])) (.sl o 0 2 1)=some ([s,t],[o]):=λa0 h s t=>by simp[bQ,View.set]
  simp(disch:=omega)only[↓wr,seval,wq,d]
  refine dw (J _ _ _) (by simp[aK]) (by unfold aE;simp;omega) (by unfold aE;simp;omega) ?_
  intro S Y U W
  simp(disch:=omega)only[↓wr,seval,wq,t8]
  refine aF hk (by omega) ⟨S,?_,λj c=>?_,rfl,t6,t7,rfl⟩
  .have:(se (l.take (i+1))).map (λn=>[gy n])=(se (l.take i)).map (λn=>[gy n])++[[gy (x.aB+1)],[gy x.dot]]:=by
    rw[z];simp[se]
   rw[this];exact U
  .obtain⟨X,k2⟩:=W j (by rw[m _ _ _ j c];exact c) (w j c).2
   exact⟨by rw[X,m _ _ _ j c],k2⟩
 .rw[abo (by omega)] at v
  simp(disch:=omega)only[↓wr,seval,wq]
  have d:∃rd,bQ H' b=some ((se l).map (λn=>[gy n]),rd):=by
   rcases v with ⟨e,k,rfl⟩ | ⟨n,rfl,C⟩
   .exact⟨[],by rw[e];rfl⟩
   .rcases B:(se l).map (λn=>[gy n]) with _ | ⟨y,ys⟩
    .exact⟨[],by simp[bQ]⟩
    .rw[B] at C
     exact⟨[n],by
      have:=j6 (H:=H') n 0 ys.length 1 1 (y::ys) C (by simp)
      rw[abl,this];simp⟩
  obtain⟨rd,d⟩:=d
  refine Yw (u:=b) (xs:=(se l).map λn=>[gy n]) (rd:=rd) (k:=((se l).map λn=>[gy n]).length) (l:=gU l) Tryz.underlying90 Tryz.underlying5 Tryz.underlying9 (by simp(disch:=omega)only[↓wr,seval];exact t3) d v.len (FH l) ?_
  simp(disch:=omega)only[↓wr,seval,wq]
  exact λid a=>(w id a).1
theorem BU (g:ak) (p:List aP) (y:aP) (s:Int):bz g (p++[y]) s=if bI g y=(s,true) then bz g p s++[⟨y.aB,y.dot+1⟩] else bz g p s:=by
 unfold bz
 rw[adk,abA]
 split
 .rename_i h;simp[h]
 .rename_i h;simp[h]
def j9 (g:ak) (p:List aP) (A:cH Int):List ez:=A.map λx=>(x.2.1,2,bh (bz g p (bj g x.1.toNat)))
structure xl (g:ak) (p:List aP) (H0 H:View) (q:Nat) (A:cH Int):Prop where
 mp:∃c,H q=.map (cQ (Value.int .i64) A) c
 nd:(A.map (·.1)).Nodup
 own:bw H (j9 g p A)
 ne:∀x∈A,0<=x.1/\bz g p (bj g x.1.toNat)≠[]
 all:∀k:Nat,bz g p (bj g k)≠[]->((k:Nat):Int)∈A.map (·.1)
 old:∀id,H0 id≠.dead->H id=H0 id
 q0:H0 q=.dead
 new:∀x∈A,∀id,owner x.2.1=some id->H0 id=.dead
theorem getM_none {A:cH Int} {k:Int} : getM A k=none↔k ∉ A.map (·.1):=by
 induction A with
 | nil=>simp[getM]
 | cons x A a =>
  unfold getM at a ⊢
  rw[ado]
  by_cases h:k=x.1
  .simp[h]
  .simp only[beq_eq_false_iff_ne.2 h,abE,abw,not_or]
   rw[a]
   simp[h]
theorem Aw {A:cH Int} {k:Int} {v:V} (h:getM A k=some v):∃a d b,A=a++(k,v,b)::d/\k ∉ a.map (·.1)/\∀v' c,bP k v' c A=a++(k,v',b)::d:=by
 induction A with
 | nil=>simp[getM] at h
 | cons x A f =>
  unfold getM at h f
  rw[ado] at h
  by_cases e:k=x.1
  .simp only[e,beq_self_eq_true,abk,abd] at h
   refine⟨[],A,x.2.2,by rw[e,<-h];rfl,by simp,λv' c=>?_⟩
   rw[bP,e,beq_self_eq_true,abb rfl];rfl
  .rw[beq_eq_false_iff_ne.2 e] at h
   obtain⟨a,d,b,rfl,g,i⟩:=f h
   refine⟨x::a,d,b,rfl,by simp only[abE,abw,not_or];exact⟨e,g⟩,λv' c=>?_⟩
   rw[bP,beq_eq_false_iff_ne.2 e,i];rfl
theorem WW {A:cH Int} {k:Int} (h:k ∉ A.map (·.1)) (v:V) (c:Nat):bP k v c A=A++[(k,v,c)]:=by
 induction A with
 | nil=>rfl
 | cons x A a =>
  simp only[abE,abw,not_or] at h
  rw[bP,beq_eq_false_iff_ne.2 h.1,a h.2];rfl
theorem xl.skip {g:ak} {p:List aP} {a H:View} {q:Nat} {A:cH Int} (h:xl g p a H q A) {y:aP} (b:(bI g y).2=false):xl g (p++[y]) a H q A:=by
 have e:∀s,bz g (p++[y]) s=bz g p s:=λs=>by rw[BU,aa9 (λh=>by rw[h] at b;simp at b)]
 have c:j9 g (p++[y]) A=j9 g p A:=by simp only[j9,e]
 exact⟨h.mp,h.nd,by rw[c];exact h.own,λx d=>by rw[e];exact h.ne x d,λk hk=>by rw[e] at hk;exact h.all k hk,h.old,h.q0,h.new⟩
theorem xl.val {g:ak} {p:List aP} {d H:View} {q:Nat} {A:cH Int} (h:xl g p d H q A) (r:Nat):aN H ((getM A r).getD (.emp 1)) 2 (bh (bz g p (bj g r))):=by
 cases c:getM A r with
 | none =>
  have e:=getM_none.1 c
  have:bz g p (bj g r)=[]:=acN λa=>e (h.all r a)
  rw[this];exact .nil
 | some v =>
  obtain⟨f,i,b,rfl,_,_⟩:=Aw c
  have:=h.own.1 (v,2,bh (bz g p (bj g r))) (by simp[j9])
  exact this
theorem xl.put {g:ak} {p:List aP} {B H:View} {q:Nat} {A:cH Int} (h:xl g p B H q A) {y:aP} {r:Nat} (W:bI g y=(bj g r,true)) {H1:View} {v':V} (X:aN H1 v' 2 (bh (bz g p (bj g r)++[⟨y.aB,y.dot+1⟩]))) (w:Left H H1 ((getM A r).getD (.emp 1)) v') (c C:Nat):
  xl g (p++[y]) B (H1.set q (.map (cQ (Value.int .i64) (bP (r:Int) v' c A)) C)) q (bP (r:Int) v' c A):=by
 obtain⟨c0,O⟩:=h.mp
 have hr:bz g (p++[y]) (bj g r)=bz g p (bj g r)++[⟨y.aB,y.dot+1⟩]:=by rw[BU,abb W]
 have i:∀x:Int × V × Nat,0<=x.1->x.1≠r->bz g (p++[y]) (bj g x.1.toNat)=bz g p (bj g x.1.toNat):=λx Q d=>by
  rw[BU,aa9]
  intro e
  rw[W] at e
  simp only[abz,and_true] at e
  have h1:=AE g r
  rw[e,AE] at h1
  omega
 have D:owner ((getM A r).getD (.emp 1))≠some q:=λe=>by
  have:=((h.val r).live e).1
  rw[O] at this;simp at this
 have E:H1 q≠.dead/\owner v'≠some q:=by
  obtain⟨k1,k2⟩:=w q (by rw[O];simp) D
  exact⟨by rw[k1,O];simp,k2⟩
 have hold:∀id,B id≠.dead->id≠q/\owner ((getM A r).getD (.emp 1))≠some id:=λid f=>by
  refine⟨λe=>f (by rw[e];exact h.q0),λe=>?_⟩
  cases t:getM A r with
  | none=>rw[t] at e;simp[owner] at e
  | some v =>
   rw[t] at e
   obtain⟨s,l,b,rfl,_,_⟩:=Aw t
   exact f (h.new (r,v,b) (by simp) id e)
 have m:∀id,B id≠.dead->(H1.set q (.map (cQ (Value.int .i64) (bP (r:Int) v' c A)) C)) id=B id:=λid f=>by
  simp only[View.set]
  rw[aa9 (hold id f).1,(w id (by rw[h.old id f];exact f) (hold id f).2).1,h.old id f]
 have F:∀id,owner v'=some id->B id=.dead:=λid e=>acF λf=>(w id (by rw[h.old id f];exact f) (hold id f).2).2 e
 have u:∀ {L:List ez},bw H1 L->(∀x∈L,owner x.1≠some q)->bw (H1.set q (.map (cQ (Value.int .i64) (bP (r:Int) v' c A)) C)) L:=λY d=>⟨λx G=>(Y.1 x G).other (d x G),Y.2⟩
 have j:∀x∈A,owner x.2.1≠some q:=λx d=>h.own.JY O _ (abt.2 ⟨x,d,rfl⟩)
 cases t:getM A r with
 | none =>
  have P:=getM_none.1 t
  rw[t] at w
  rw[WW P] at *
  have R:j9 g (p++[y]) (A++[((r:Int),v',c)])=j9 g p A++[(v',2,bh (bz g p (bj g r)++[⟨y.aB,y.dot+1⟩]))]:=by
   simp only[j9,abA,abE,acJ,abM,hr]
   congr 1
   refine aca λx d=>?_
   rw[i x (h.ne x d).1 (λe=>P (abt.2 ⟨x,d,e⟩))]
  refine⟨⟨C,by simp[View.set]⟩,?_,?_,λx d=>?_,λk hk=>?_,m,h.q0,λx d id e=>?_⟩
  .rw[abA,acH]
   refine⟨h.nd,by simp,λa ha b Z e=>?_⟩
   simp at Z;subst Z;subst e;exact P ha
  .rw[R]
   have S:bw H1 ((v',2,bh (bz g p (bj g r)++[⟨y.aB,y.dot+1⟩]))::j9 g p A):=(h.own.emp (k:=1) (sz:=2)).left (by simpa using X) w
   refine u (S.perm (List.perm_append_comm (l₁:=[_]))) λx d=>?_
   rcases abq.1 d with d | d
   .obtain⟨z,I,rfl⟩:=abt.1 d
    exact j z I
   .simp at d;subst d;exact E.2
  .rcases abq.1 d with d | d
   .rw[i x (h.ne x d).1 (λe=>P (abt.2 ⟨x,d,e⟩))];exact h.ne x d
   .simp at d;subst d;simp[hr]
  .rw[abA,abq]
   by_cases e:k=r
   .right;simp[e]
   .left
    refine h.all k ?_
    have:=i ((k:Int),.any,0) (by simp) (by simp only;omega)
    simp only[abM] at this
    rw[<-this];exact hk
  .rcases abq.1 d with d | d
   .exact h.new x d id e
   .simp at d;subst d;exact F id e
 | some v =>
  obtain⟨s,l,b,rfl,T,J⟩:=Aw t
  rw[t] at w
  rw[J] at *
  have K:=h.nd
  rw[abA,abE,acH] at K
  have U:(r:Int) ∉ l.map (·.1):=(acd.1 K.2.1).1
  have M:∀x∈s,x.1≠r:=λx d e=>T (abt.2 ⟨x,d,e⟩)
  have N:∀x∈l,x.1≠r:=λx d e=>U (abt.2 ⟨x,d,e⟩)
  have n:∀x∈s,x∈s++((r:Int),v,b)::l:=λx d=>List.mem_append_left _ d
  have o:∀x∈l,x∈s++((r:Int),v,b)::l:=λx d=>List.mem_append_right _ (abx _ d)
  have R:j9 g (p++[y]) (s++((r:Int),v',b)::l)=j9 g p s++(v',2,bh (bz g p (bj g r)++[⟨y.aB,y.dot+1⟩]))::j9 g p l:=by
   simp only[j9,abA,abE,abM,hr]
   congr 1
   .refine aca λx d=>?_
    rw[i x (h.ne x (n x d)).1 (M x d)]
   .congr 1
    refine aca λx d=>?_
    rw[i x (h.ne x (o x d)).1 (N x d)]
  have e0:j9 g p (s++((r:Int),v,b)::l)=j9 g p s++(v,2,bh (bz g p (bj g r)))::j9 g p l:=by
   simp only[j9,abA,abE,abM]
  refine⟨⟨C,by simp[View.set]⟩,by simpa using h.nd,?_,λx d=>?_,λk hk=>?_,m,h.q0,λx d id e=>?_⟩
  .rw[R]
   have Q:=h.own
   rw[e0] at Q
   have S:bw H1 ((v',2,bh (bz g p (bj g r)++[⟨y.aB,y.dot+1⟩]))::(j9 g p s++j9 g p l)):=(Q.perm adj).left X w
   refine u (S.perm adj.symm) λx d=>?_
   rcases abq.1 d with d | d
   .obtain⟨z,I,rfl⟩:=abt.1 d
    exact j z (n z I)
   .rcases abw.1 d with rfl | d
    .exact E.2
    .obtain⟨z,I,rfl⟩:=abt.1 d
     exact j z (o z I)
  .rcases abq.1 d with d | d
   .rw[i x (h.ne x (n x d)).1 (M x d)];exact h.ne x (n x d)
   .rcases abw.1 d with rfl | d
    .simp[hr]
    .rw[i x (h.ne x (o x d)).1 (N x d)];exact h.ne x (o x d)
  .by_cases e:k=r
   .subst e;simp
   .have:=i ((k:Int),.any,0) (by simp) (by simp only;omega)
    simp only[abM] at this
    rw[this] at hk
    have:=h.all k hk
    simpa using this
  .rcases abq.1 d with d | d
   .exact h.new x (n x d) id e
   .rcases abw.1 d with rfl | d
    .exact F id e
    .exact h.new x (o x d) id e
theorem xl.fresh {g:ak} {p:List aP} {e H:View} {q:Nat} {A:cH Int} (h:xl g p e H q A) {n:Nat} (b:H n=.dead) (o:ct):xl g p e (H.set n o) q A:=by
 obtain⟨c,d⟩:=h.mp
 have f:q≠n:=by rintro rfl;rw[b] at d;simp at d
 refine⟨⟨c,by simp[View.set,f,d]⟩,h.nd,h.own.fresh b,h.ne,h.all,λid a=>?_,h.q0,h.new⟩
 have i:id≠n:=by rintro rfl;rw[h.old id a] at b;exact a b
 simp[View.set,i,h.old id a]
theorem U8 (g:ak) (w:g.c5) (l:List aP) (hl:∀x∈l,cW g x) (L:l.length<=10000) (u:V) (H:View) (ho:aN H u 2 (bh l)):az aa 122 [.agg (aj g),u] H λr H'=>∃q A,r=.mp q/\xl g l H H' q A:=by
 refine az.of mixed FI ?_
 have hlen:cE u=some l.length:=by rw[ho.len,bT]
 have hT:=w.ax
 have hN:=w.av
 simp(disch:=omega)only[↓wr,seval,wq,By,aj,encS,hlen]
 intro q M
 have N:xl g [] H (H.set q (.map [] 0)) q []:=⟨⟨0,by simp[View.set,cQ]⟩,by simp,⟨by simp[j9],by simp[j9]⟩,by simp,λk hk=>absurd rfl hk,λid j=>by
  have:id≠q:=by rintro rfl;exact j M
  simp[View.set,this],M,by simp⟩
 generalize H.set q (.map [] 0)=H1 at N
 try simp(disch:=omega)only[↓wr,seval,wq]
 refine aW.up l.length (λi T H'=>∃A,xl g (l.take i) H H' q A/\T 2=.aR (aj g) 0/\T 5=.mp q/\T 12=u/\T 13=gi l.length/\T 14=gi i) ⟨[],N,rfl,rfl,rfl,rfl,rfl⟩ ?_
 clear N M
 rintro i k T H' hk ⟨A,D,t2,t5,t12,t13,t14⟩
 simp(disch:=omega)only[↓wr,seval,wq,yP,t13,t14]
 apply ao.dec<;>intro hc
 .have O:l[i]?=some (l[i]'(by omega)):=aa8 (by omega)
  have a:=hl _ (abe (show i<l.length by omega))
  have B:l.take (i+1)=l.take i++[l[i]'(by omega)]:=by rw[abr,O];rfl
  generalize l[i]'(by omega)=x at O a B
  have h1:=K6 g w x a
  cases b:bI g x with
  | mk s P =>
  have Q:=AH w a b
  rw[b] at h1
  have ae:=ed w a.1
  have al:=a.2
  obtain⟨id,hu,j⟩:=ho.sl (by rw[bT];omega)
  have p:H' id=.arr 2 (bh l):=by rw[D.old id (by rw[j];simp),j]
  rw[bT] at hu
  subst hu
  simp only[aj,encS,bM] at h1
  simp(disch:=omega)only[↓wr,seval,wq,t2,t12,t14,p,tt O]
  refine⟨by omega,by rw[bT];omega,?_⟩
  intro E F
  rw[set_set]
  have d:(H'.set E (.arr 2 [[gi x.aB,gi x.dot]])) E=.arr 2 [[gi x.aB,gi x.dot]]:=by simp[View.set]
  have f:=D.fresh F (.arr 2 [[gi x.aB,gi x.dot]])
  generalize H'.set E (.arr 2 [[gi x.aB,gi x.dot]])=R at d f
  clear D F p
  try simp(disch:=omega)only[seval,wq,aj,encS]
  refine ay.pure h1 ?_
  cases P with
  | false =>
   simp(disch:=omega)only[↓wr,seval,wq,t5,t14]
   exact aF hk (by omega) ⟨A,by rw[B];exact f.skip (by rw[b]),t2,t5,t12,t13,rfl⟩
  | true =>
  have hh:=vA w a b
  obtain⟨r1,r2⟩:=Ny hh
  obtain⟨r3,r4⟩:=L9 r1
  obtain⟨r,hr⟩:∃r:Nat,oI g s=r:=⟨(oI g s).toNat,by omega⟩
  rw[hr,abM] at r4
  have S:=Wx g w s Q
  rw[hr] at S
  simp only[aj,encS] at S
  simp(disch:=omega)only[↓wr,seval,wq,t2,aj,encS]
  refine ay.pure S ?_
  obtain⟨c,U⟩:=f.mp
  simp(disch:=omega)only[↓wr,seval,wq,t5]
  refine CM (kt:=3) (et:=103) (z:=.emp 1) (by kernel_rfl) (by kernel_rfl) (mg .i64 Tryz.underlying3) (id:=q) (c:=c) (m:=A) (k:=(r:Int)) (by simp(disch:=omega)only[↓wr,seval]) (by simp(disch:=omega)only[↓wr,seval]) U ?_
  have an:=f.val r
  have ab:∀n o,R n=.dead->(R.set n o) E=.arr 2 [[gi x.aB,gi x.dot]]:=λn o L=>by
   have:E≠n:=by rintro rfl;rw[d] at L;simp at L
   simp[View.set,this,d]
  try simp(disch:=omega)only[↓wr,seval,wq,d]
  intro W X
  have C:=f.fresh X (.arr 2 [[gi x.aB,gi (x.dot+1)]])
  have t:=C.val r
  have Y:bQ (R.set W (.arr 2 [[gi x.aB,gi (x.dot+1)]])) (.sl W 0 1 2)=some ([[gi x.aB,gi (x.dot+1)]],[W]):=by simp[bQ,View.set]
  simp(disch:=omega)only[↓wr,seval,wq,Y]
  have Z:=vL (g:=g) (l:=l.take i) (s:=bj g r)
  rw[acb] at Z
  refine dw t (by simp[aK]) (by unfold aE;rw[bT];simp;omega) (by unfold aE;rw[bT];simp;omega) ?_
  intro v' H6 o6 l6
  obtain⟨K,h⟩:=C.mp
  have G:owner ((getM A (r:Int)).getD (.emp 1))≠some q:=λe=>by
   have:=(t.live e).1
   rw[h] at this;simp at this
  have I:H6 q=.map (cQ (Value.int .i64) A) K:=by
   rw[(l6 q (by rw[h];simp) G).1,h]
  simp(disch:=omega)only[↓wr,seval,wq]
  refine yz (kt:=3) (et:=103) (by kernel_rfl) (mg .i64 Tryz.underlying3) (id:=q) (c:=K) (m:=A) (k:=(r:Int)) (v:=v') (by simp(disch:=omega)only[↓wr,seval]) (by simp(disch:=omega)only[↓wr,seval]) (by simp(disch:=omega)only[↓wr,seval]) I ?_
  intro c'
  simp(disch:=omega)only[↓wr,seval,wq,t5,t14]
  have J:=C.put (y:=x) (r:=r) (by rw[b,r4]) (H1:=H6) (v':=v') (by
   have e:bh (bz g (l.take i) (bj g r)++[⟨x.aB,x.dot+1⟩])=bh (bz g (l.take i) (bj g r))++[[gi x.aB,gi (x.dot+1)]]:=by simp[bh,bM]
   rw[e];exact o6) l6 K c'
  exact aF hk (by omega) ⟨bP (r:Int) v' K A,by rw[B];exact J,t2,t5,t12,t13,rfl⟩
 .rw[abo (by omega)] at D
  simp(disch:=omega)only[↓wr,seval,wq,t5]
  exact⟨q,A,rfl,D⟩
theorem ay.still {P:Program} {f:FuncId} {vs:List V} {H:View} {K:V->View->Prop} {w:dd (H,K)} {a:V->View->Prop} (b:az P f vs H a) (c:∀r H',a r H'->∀id,H id≠.dead->H' id=H id) (hk:∀r H',a r H'->K r H'):ay P true f vs H K w:=by
 unfold ay
 simp only[if_true]
 exact(b.mono λr H' h=>⟨c r H' h,hk r H' h⟩).PO
theorem bw.join {H:View} {L M:List ez} (h:bw H L) (k:bw H M) (g:∀x∈L,∀y∈M,∀id,owner x.1=some id->owner y.1≠some id):bw H (L++M):=by
 refine⟨λx c=>?_,?_⟩
 .rcases abq.1 c with c | c
  .exact h.1 x c
  .exact k.1 x c
 .rw[List.filterMap_append,acH]
  refine⟨h.2,k.2,λa i b j e=>?_⟩
  obtain⟨x,c,d⟩:=acB.1 i
  obtain⟨y,l,f⟩:=acB.1 j
  subst e
  exact g x c y l a d f
theorem bw.sub {H:View} {L M:List ez} (h:bw H L) (a:M.Sublist L):bw H M:=
 ⟨λx b=>h.1 x (a.subset b),h.2.sublist (a.filterMap _)⟩
theorem RQ {l:List aP} (g:cM l) (i:l.length<=100000) (u:V) (H:View) (b:aN H u 2 (bh l)):az aa 124 [u] H λr H'=>H=H'/\aN H r 2 (bh l)/\(l≠[]->r=u):=by
 refine(OS l i u H b).mono ?_
 rintro r H' ⟨j,k2,a⟩
 rw[PF g] at k2
 have e:H'=H:=by
  funext id
  by_cases h:owner u=some id
  .rw[(b.live h).1,(k2.live (by rw[a];exact h)).1]
  .exact j id h
 subst e
 refine⟨rfl,k2,λc=>?_⟩
 have hp:0<(bh l).length:=by rw[bT];exact adf.2 c
 obtain⟨n,d,_⟩:=b.sl hp
 obtain⟨m,f,_⟩:=k2.sl hp
 rw[d,f] at a
 simp only[owner,abd] at a
 rw[d,f,a]
def ui (g:ak) (out:List ba) (M:cH (List UInt8)):Prop:=∀l:List aP,(∀x∈l,cW g x)->getM M (gU l)=if findD out l<0 then none else some (gi (findD out l))
theorem IT:∀ {a b:List ba},a.map ba.bA=b.map ba.bA->∀k,findD a k=findD b k
 | [],[],_,_=>rfl
 | [],_::_,h,_=>by simp at h
 | _::_,[],h,_=>by simp at h
 | s::a,t::b,h,k=>by
  simp only[abE,List.cons.injEq] at h
  rw[findD,findD,h.1,IT h.2 k]
theorem GA:∀(a:List ba) (s:ba) (k:List aP),findD (a++[s]) k=if 0<=findD a k then findD a k else if s.bA=k then (a.length:Int) else -1
 | [],s,k=>by by_cases e:s.bA=k<;>simp[findD,e]
 | t::a,s,k=>by
  have b:=GA a s k
  have h1:=zp a k
  rw[abN,findD,findD,b]
  simp only[abl]
  push_cast
  by_cases e:t.bA=k<;>by_cases c:s.bA=k<;>by_cases d:0<=findD a k<;>simp only[e,c,d,if_true,if_false]<;>(repeat' split)<;>omega
theorem ui.same {g:ak} {a b:List ba} {M:cH (List UInt8)} (h:ui g a M) (e:a.map ba.bA=b.map ba.bA):ui g b M:=λl c=>by
 rw[h l c,IT e]
theorem ui.put {g:ak} (d:g.c5) {out:List ba} {M:cH (List UInt8)} (h:ui g out M) {k:List aP} (hk:∀x∈k,cW g x) (i:findD out k<0) (c:Nat):ui g (out++[⟨k,[]⟩]) (bP (gU k) (gi out.length) c M):=λl a=>by
 have h1:=GA out ⟨k,[]⟩ l
 have j:=zp out l
 rw[lz]
 by_cases e:l=k
 .subst e
  rw[aa9 (by omega),abb rfl] at h1
  rw[h1,beq_self_eq_true,abb rfl,aa9 (by omega)]
 .have f:(gU l==gU k)=false:=beq_eq_false_iff_ne.2 λh=>e (Mh d a hk h)
  rw[f,h l a]
  simp only[abI,if_false]
  by_cases b:0<=findD out l
  .rw[abb b] at h1
   rw[h1]
  .rw[aa9 b,aa9 (λh=>e h.symm)] at h1
   rw[h1,abb (by omega),abb (by omega)]
theorem MI {A:cH Int} {k:Nat} {v:V} (d:(A.map (·.1)).Nodup) (h:getM A (k:Int)=some v):∃b,(A.filter (λx=>decide (((k:Nat):Int)<=x.1))).Perm (((k:Int),v,b)::A.filter (λx=>decide (((k+1:Nat):Int)<=x.1))):=by
 obtain⟨g,f,b,rfl,a,_⟩:=Aw h
 rw[abA,abE,acH] at d
 have c:(k:Int) ∉ f.map (·.1):=(acd.1 d.2.1).1
 have e:∀B:cH Int,(k:Int) ∉ B.map (·.1)->B.filter (λx=>decide (((k:Nat):Int)<=x.1))=B.filter (λx=>decide (((k+1:Nat):Int)<=x.1)):=λB i=>List.filter_congr λx j=>by
  have:x.1≠(k:Int):=λe=>i (abt.2 ⟨x,j,e⟩)
  rw[decide_eq_decide];omega
 refine⟨b,?_⟩
 rw[adk,adk,List.filter_cons,List.filter_cons,abb (by simp),aa9 (by simp only[abn];push_cast;omega),e g a,e f c]
 exact adj
theorem Zu {α:Type} {e u r:α} {S X Y:List α} (h:X.Perm (r::Y)):(e::u::(S++X)).Perm (u::((S++[r,e])++Y)):=by
 refine(List.Perm.swap _ _ _).trans (.cons _ ?_)
 rw[ace]
 refine((h.append_left S).cons e).trans ?_
 exact adj.symm.trans ((List.Perm.swap _ _ _).append_left S)
theorem Kc {α:Type} {u k e:α} {S R:List α} : (u::(S++k::e::R)).Perm (e::u::(S++k::R)):=by
 have h:(S++k::e::R).Perm (e::(S++k::R)):=by
  have:=adj (a:=e) (l₁:=S++[k]) (l₂:=R)
  simpa using this
 exact(h.cons u).trans (List.Perm.swap _ _ _)
def y9:SC:=
 ai [ag [aS 49 .lss 48 47],bO 49 (.exit 2),.block 3 (ai [ag [af 50 48,af 9 50],ag [af 51 8,af 52 9,((some 53),.op (.old (.lookup 209 (.tmp 51) (.tmp 52) false) 103)),aU 54 124 [53],af 10 54],ai [ag [af 55 10,aM 56 55,aI 57 .eql 56 0],aX 57 (.exit 3)],ag [af 58 9,af 11 58],ai [ag [af 59 9,aw 60 0 1,au 61 60,aM 62 61,aS 63 .geq 59 62],aX 63 (ag [aw 64 0 1,au 65 64,aM 66 65,aI 67 .sub 66 1,af 68 9,aS 69 .sub 67 68,af 11 69])],ag [af 71 6,af 72 10,aU 73 121 [72],((some 74),.op (.old (.lookup 208 (.tmp 71) (.tmp 73) true) 66)),af 70 74,c7 75 0 70,c7 76 1 70,af 12 75,af 13 76],ai [ag [af 77 13,cO 78 77],aX 78 (ai [ag [af 79 5,aM 80 79,af 12 80],ag [af 81 6,af 82 10,aU 83 121 [82],af 84 12,(none,.op (.old (.mapUpdate 208 (.tmp 81) (.tmp 83) (.tmp 84)) 0))],ag [af 85 5,af 86 10,((some 87),.op (.build [(.emp 1),(.emp 1)] [(0,1,(.tmp 86))])),((some 88),.op (.bH 1 2 [(.emp 1),(.emp 1)] [(0,(.tmp 87))])),eZ 89 2 48 85 88,af 5 89]])],ag [af 90 5,af 91 7,af 92 5,af 93 7,aL 94 2 92 93,aw 95 1 94,au 96 95,af 97 11,af 98 12,((some 99),.op (.build [(.val (.int .i64 0)),(.val (.int .i64 0))] [(0,1,(.tmp 97)),(1,1,(.tmp 98))])),((some 100),.op (.bH 1 2 [(.val (.int .i64 0)),(.val (.int .i64 0))] [(0,(.tmp 99))])),eZ 101 2 16 96 100,aL 102 2 90 91,aw 103 1 102,cz 1 103 101]]),ag [aI 104 .add 48 1,af 48 104]]
def yZ:SC:=
 ai [ai [ag [af 26 7,af 27 5,aM 28 27,aS 29 .lss 26 28],bO 29 (.exit 0)],.block 1 (ai [.region true [⟨none,[aV 32 4 1,aV 33 4 1,af 34 5,af 35 7,aL 36 2 34 35,aw 37 0 36,au 38 37,aU 39 123 [33,38],aU 40 122 [32,39],af 8 40]⟩],ai [ag [aw 41 0 1,au 42 41,aM 43 42,aw 44 1 1,au 45 44,aM 46 45,aS 47 .add 43 46,aT 48 0],bR 2 y9],ag [af 105 5,aM 106 105,aI 107 .gtr 106 300],aX 107 (ai [ag [bL 2 1,aT 3 5],.ret])]),ag [af 30 7,aI 31 .add 30 1,af 7 31]]
def B2:SF:=⟨ai [ag [bZ 1 0,bL 2 1,aT 3 0],ai [ag [aV 14 4 1,aU 15 82 [14],cO 16 15],aX 16 (ai [ag [bL 2 1,aT 3 1],.ret])],ag [((some 17),.op (.build [(.val (.int .i64 0)),(.val (.int .i64 0))] [(0,1,(.val (.val (.int .i64 (-1)))))])),((some 18),.op (.bH 1 2 [(.val (.int .i64 0)),(.val (.int .i64 0))] [(0,(.tmp 17))])),af 4 18],ag [af 19 4,((some 20),.op (.build [(.emp 1),(.emp 1)] [(0,1,(.tmp 19))])),((some 21),.op (.bH 1 2 [(.emp 1),(.emp 1)] [(0,(.tmp 20))])),af 5 21],ag [((some 22),.op (.ra)),af 23 4,aU 24 121 [23],(none,.op (.old (.insert 208 (.tmp 22) (.tmp 24) (.const (.int .i64 0))) 0)),af 25 22,af 6 25],ai [ag [aT 7 0],bR 0 yZ],ag [af 108 5,af 2 108,aT 3 0],.ret],
 [.tmp 2,.tmp 3],109⟩
theorem Fq:aJ aa 60 [1]=some B2:=by kernel_rfl
def AbI (g:ak) (m:Nat) (T:Env) (H:View):Prop:=∃(at_:Nat) (u:V) (S:List rB) (out:List ba) (q c:Nat) (M:cH (List UInt8)),m+at_=302/\out=S.map (λx=>x.2.2)/\bw H ((u,2,fM S)::nE S)/\er g at_ 0 out/\1<=out.length/\out.length<=300/\fS g m at_ out=cD g/\at_<=out.length /\
 H q=.map (cQ jd M) c/\ui g out M/\T 1=.aR (aj g) 0/\T 5=u/\T 6=.mp q/\T 7=gi at_
theorem R9 (g:ak) (hg:g.Ok) (e7:g.Small):bX aa 60 [.agg (aj g)] (.bc [cq (cD g).1,gi (cD g).2]):=by
 refine bX.of (dy g) ?_
 have c4:=Uk g hg e7
 refine az.of mixed Fq ?_
 simp only[aj,encS] at c4
 simp(disch:=omega)only[↓wr,seval,wq,B2,aj,encS]
 refine ay.pure c4 ?_
 simp(disch:=omega)only[↓wr,seval,wq]
 apply ao.split<;>intro hr
 rotate_left
 .simp(disch:=omega)only[↓wr,seval,wq]
  intro h' _
  have e:cD g=([],1):=by unfold cD;rw[aa9 (by rw[hr];simp)]
  rw[e]
  exact lL (.emp _)
 have N:g.c5:=uV hr
 have e0:fS g 302 0 eC=cD g:=by unfold cD;rw[abb hr]
 have hT:=N.ax;have hN:=N.av
 simp(disch:=omega)only[↓wr,seval,wq]
 intro Y q2 O q3 da
 have b7:cW g ⟨-1,0⟩:=(mF (g:=g)).bA ⟨[⟨-1,0⟩],[]⟩ (by simp[eC]) |>.2.2 _ (by simp)
 have o0:bw (((View.set (λ_=>ct.dead) Y (.arr 2 [[gi (-1),gi 0]])).set q2 (.arr 2 [[.sl Y 0 1 2,.emp 1]]))) ((.sl q2 0 1 2,2,fM [(.sl Y 0 1 2,.emp 1,⟨[⟨-1,0⟩],[]⟩)])::nE [(.sl Y 0 1 2,.emp 1,⟨[⟨-1,0⟩],[]⟩)]):=
  (((bw.nil.emp (k:=1) (sz:=2)).new (n:=Y) rfl 2 [[gi (-1),gi 0]]).new (by simpa [View.set] using O) 2 [[.sl Y 0 1 2,.emp 1]])
 have o1:=o0.fresh (n:=q3) (by simpa [View.set] using da) (o:=.map [] 0)
 have b0:((((View.set (λ_=>ct.dead) Y (.arr 2 [[gi (-1),gi 0]])).set q2 (.arr 2 [[.sl Y 0 1 2,.emp 1]])).set q3 (.map [] 0))) q3=.map (cQ jd []) 0:=by simp[View.set,cQ]
 generalize (((View.set (λ_=>ct.dead) Y (.arr 2 [[gi (-1),gi 0]])).set q2 (.arr 2 [[.sl Y 0 1 2,.emp 1]])).set q3 (.map [] 0))=H3 at o1 b0 ⊢
 clear o0 O da
 have db:aN H3 (.sl Y 0 1 2) 2 (bh [⟨-1,0⟩]):=o1.1 _ (abx _ (acg ..))
 refine ay.cF ((MG g N [⟨-1,0⟩] (λx Z=>by simp at Z;subst Z;exact b7) (by simp) (.sl Y 0 1 2) H3 db).mono ?_)
 rintro r H4 ⟨rfl,k4⟩
 have cj:H4 q3=.map (cQ jd []) 0:=by rw[k4 q3 (by rw[b0];simp),b0]
 simp(disch:=omega)only[↓wr,seval,wq,YN]
 refine yz (kt:=9) (et:=3) (by kernel_rfl) (Mx Tryz.underlying9) (id:=q3) (c:=0) (m:=[]) (k:=gU [⟨-1,0⟩]) (v:=gi 0) (by simp(disch:=omega)only[↓wr,seval]) (by simp(disch:=omega)only[↓wr,seval]) rfl cj ?_
 intro L
 have dc:ui g eC (bP (gU [⟨-1,0⟩]) (gi 0) 0 []):=ui.put (out:=[]) N (λl _=>by simp[getM,findD]) (λx Z=>by simp at Z;subst Z;exact b7) (by simp[findD]) 0
 have o2:=(o1.stay k4).F5 cj (o:=.map (cQ jd (bP (gU [⟨-1,0⟩]) (gi 0) 0 [])) L)
 have ck:(H4.set q3 (.map (cQ jd (bP (gU [⟨-1,0⟩]) (gi 0) 0 [])) L)) q3=.map (cQ jd (bP (gU [⟨-1,0⟩]) (gi 0) 0 [])) L:=by simp[View.set]
 generalize H4.set q3 (.map (cQ jd (bP (gU [⟨-1,0⟩]) (gi 0) 0 [])) L)=H5 at o2 ck ⊢
 clear cj b0 k4 db o1
 clear H4 H3
 simp(disch:=omega)only[↓wr,seval,wq]
 refine aW.intro (AbI g) 302 ⟨0,_,_,eC,q3,L,_,rfl,rfl,o2,mF,abg _,by simp[eC],e0,by omega,ck,dc,rfl,rfl,rfl,rfl⟩ ?_
 clear o2 ck dc
 clear H5 Y q2 q3 L
 rintro m T H ⟨at_,u,S,out,q,c,M,hm,rfl,P,hI,h1,b8,hl,hle,w,G,t1,t5,t6,t7⟩
 have aq:cE u=some S.length:=by rw[P.head.len,dz]
 simp only[abc] at h1 b8 hle
 simp(disch:=omega)only[↓wr,seval,wq,yZ,t5,t7,aq]
 apply ao.dec<;>intro hc
 rotate_left
 .simp(disch:=omega)only[↓wr,seval,wq,t5]
  have e1:cD g=(S.map (λx=>x.2.2),0):=by
   rw[<-hl]
   cases m with
   | zero=>rfl
   | succ m=>rw[fS,aa9 (by simp;omega)]
  rw[e1]
  rintro h' rfl
  exact lL (Hj P.head λx Z=>⟨P.1 _ (abx _ (pb Z).1),P.1 _ (abx _ (pb Z).2)⟩)
 obtain⟨m,rfl⟩:∃q,m=q+1:=⟨m-1,by omega⟩
 have ar:at_<S.length:=by omega
 obtain⟨d,x,t,rfl,ab,Z⟩:=Ab ar
 have cu:x∈d++x::t:=by simp
 obtain⟨dj,e8,a1⟩:=hI.bA x.2.2 (List.mem_map_of_mem cu)
 have e9:=lk N dj a1
 have hh:aN H u 2 (fM (d++x::t)):=P.head
 obtain⟨id,hu,C⟩:=hh.sl (by rw[dz];omega)
 have a6:(fM (d++x::t)).getD at_ []=[x.1,x.2.1]:=by simp[fM,<-ab]
 have dm:dx g ((List.map (λx=>x.2.2) (d++x::t)).getD at_ cg).bA=dx g x.2.2.bA:=by
  rw[aa7,aba,Z];rfl
 have b9:=λn hn=>er.row (hI.nM N (show at_<((d++x::t).map λx=>x.2.2).length by simpa using ar)).1 (hI.nM N (show at_<((d++x::t).map λx=>x.2.2).length by simpa using ar)).2 hI n hn
 rw[fS,abb (by simpa using ar),Cy] at hl
 rw[dm] at hl b9
 have ds:=uX g x.2.2.bA
 have cv:∀y∈dx g x.2.2.bA,cW g y:=λy hy=>((gQ N a1).1 hy).has a1
 rw[dz] at hu
 simp(disch:=omega)only[↓wr,seval,wq,t1,t5,t7,hu,C,a6,aj,encS]
 refine⟨by omega,by rw[dz];omega,?_⟩
 refine ay.Hn (Nl g N x.2.2.bA a1 (by omega) x.1 H (P.1 _ (abx _ (pb cu).1))) ?_
 intro r H2 or fr
 simp(disch:=omega)only[↓wr,seval,wq]
 have fy:=lk N ds cv
 refine ay.still (U8 g N (dx g x.2.2.bA) cv (by omega) r H2 or) (λr H' h=>by obtain⟨q,A,_,h⟩:=h;exact h.old) ?_
 rintro r2 H6 ⟨U,A,rfl,D⟩
 have cC:∀id,H id≠.dead->H6 id=H id:=λid C=>by rw[D.old id (by rw[(fr id C).1];exact C),(fr id C).1]
 have ca:H6 q=.map (cQ jd M) c:=by rw[cC q (by rw[w];simp),w]
 have o6:bw H6 ((u,2,fM (d++x::t))::(nE (d++x::t)++j9 g (dx g x.2.2.bA) (A.filter λy=>decide (((0:Nat):Int)<=y.1)))):=by
  have hA:A.filter (λy=>decide (((0:Nat):Int)<=y.1))=A:=List.filter_eq_self.2 λy hy=>by simpa using (D.ne y hy).1
  rw[hA]
  refine(P.stay cC).join (M:=j9 g (dx g x.2.2.bA) A) D.own λa ha b hb id h1 h2=>?_
  obtain⟨y,hy,rfl⟩:=abt.1 hb
  have h3:=D.new y hy id h2
  have h4:=P.live ha h1
  rw[(fr id h4).1] at h3
  exact h4 h3
 obtain⟨cA,Q⟩:=D.mp
 have hAnd:=D.nd
 have fb:U≠q:=by
  rintro rfl
  have:=D.q0
  rw[(fr _ (by rw[w];simp)).1,w] at this;simp at this
 have a7:∀k:Nat,(getM A (k:Int)=none->bz g (dx g x.2.2.bA) (bj g k)=[]):=λk h=>acN λae=>getM_none.1 h (D.all k ae)
 clear or fr C a6 dm Z cC D w
 generalize dx g x.2.2.bA=cl at *
 generalize E:(d++x::t).map (λx=>x.2.2)=a8 at *
 have dv:a8.length=(d++x::t).length:=by rw[<-E];simp
 simp(disch:=omega)only[↓wr,seval,wq,t1,aj,encS]
 refine aW.up (g.ax.length+g.av.length) (λi T H'=>∃(u:V) (S:List rB) (M:cH (List UInt8)) (c:Nat),S.map (λx=>x.2.2)=(List.range i).foldl (dG g cl at_) a8/\bw H' ((u,2,fM S)::(nE S++j9 g cl (A.filter λy=>decide (((i:Nat):Int)<=y.1)))) /\
  H' U=.map (cQ (Value.int .i64) A) cA/\H' q=.map (cQ jd M) c/\ui g (S.map λx=>x.2.2) M/\T 1=.aR (aj g) 0/\T 5=u/\T 6=.mp q/\T 7=gi at_/\T 8=.mp U/\T 47=gi ((g.ax.length+g.av.length:Nat):Int)/\T 48=gi i)
  ⟨u,_,M,c,E,o6,Q,ca,by rw[E];exact G,t1,by rw[<-hu];exact t5,t6,t7,rfl,?_,rfl⟩ ?_
 .push_cast;rfl
 rw[<-dv] at h1 b8 hle ar
 clear o6 P hh hu t1 t5 t6 t7 aq E cu dv hc dj e8 a1 e9 ab Q ca G
 clear u H H2 H6 T id d x t M c r
 rintro i k T H' hk ⟨u,S,M,c,hA,P,Q,w,G,t1,t5,t6,t7,t8,t47,t48⟩
 obtain⟨iI,ea,eb⟩:=b9 i (by omega)
 rw[<-hA] at iI ea eb
 rw[abc] at ea eb
 have aq:cE u=some S.length:=by rw[P.head.len,dz]
 simp(disch:=omega)only[↓wr,seval,wq,y9,t47,t48]
 apply ao.dec<;>intro hc
 rotate_left
 .have hi:i=g.ax.length+g.av.length:=by omega
  subst hi
  rw[<-hA] at hl
  simp(disch:=omega)only[↓wr,seval,wq,t5,t7,aq]
  apply ao.dec<;>intro h3
  .simp(disch:=omega)only[↓wr,seval,wq]
   intro h' _
   rw[abb (by rw[abc];omega)] at hl
   rw[<-hl]
   exact lL (.emp _)
  .simp(disch:=omega)only[↓wr,seval,wq,t5,t7]
   rw[aa9 (by rw[abc];omega)] at hl
   exact⟨m,by omega,at_+1,u,S,_,q,c,M,by omega,rfl,P.sub (List.Sublist.cons_cons _ (List.sublist_append_left _ _)),iI.next,by rw[abc];omega,by rw[abc];omega,hl,by rw[abc];omega,w,G,t1,t5,t6,rfl⟩
 have ff:i<g.ax.length+g.av.length:=by omega
 have fz:=FC N ff
 have bd:(List.range (i+1)).foldl (dG g cl at_) a8=dG g cl at_ (S.map λx=>x.2.2) i:=by rw[acD,acM,<-hA];rfl
 have ee:aN H' ((getM A (i:Int)).getD (.emp 1)) 2 (bh (bz g cl (bj g i))):=by
  cases hg:getM A (i:Int) with
  | none=>rw[a7 i hg];exact .nil
  | some v =>
   obtain⟨b,hp⟩:=MI hAnd hg
   refine P.1 (v,2,bh (bz g cl (bj g i))) (abx _ (List.mem_append_right _ (abt.2 ⟨((i:Int),v,b),hp.mem_iff.2 (by simp),?_⟩)))
   simp
 have cb:(j9 g cl (A.filter λy=>decide (((i+1:Nat):Int)<=y.1))).Sublist (j9 g cl (A.filter λy=>decide (((i:Nat):Int)<=y.1))):=by
  have:A.filter (λy=>decide (((i+1:Nat):Int)<=y.1))=(A.filter (λy=>decide (((i:Nat):Int)<=y.1))).filter (λy=>decide (((i+1:Nat):Int)<=y.1)):=by
   rw[List.filter_filter]
   refine List.filter_congr λy _=>?_
   rw[<-Bool.decide_and,decide_eq_decide];omega
  rw[this]
  exact(List.filter_sublist).map _
 simp(disch:=omega)only[↓wr,seval,wq,t8,t48]
 refine CM (kt:=3) (et:=103) (z:=.emp 1) (by kernel_rfl) (by kernel_rfl) (mg .i64 Tryz.underlying3) (id:=U) (c:=cA) (m:=A) (k:=(i:Int)) (by simp(disch:=omega)only[↓wr,seval]) (by simp(disch:=omega)only[↓wr,seval]) Q ?_
 simp(disch:=omega)only[↓wr,seval,wq]
 refine ay.cF ((RQ (Iv (bj g i) ds) (by have:=vL (g:=g) (l:=cl) (s:=bj g i);omega) _ H' ee).mono ?_)
 rintro r _ ⟨rfl,or,ef⟩
 have ga:=vL (g:=g) (l:=cl) (s:=bj g i)
 have b1:=Mn (s:=bj g i) cv
 have fl:cE r=some (bz g cl (bj g i)).length:=by rw[or.len,bT]
 simp(disch:=omega)only[↓wr,seval,wq,fl]
 apply ao.eq<;>intro he
 .have eg:bz g cl (bj g i)=[]:=acx.1 (by omega)
  simp(disch:=omega)only[↓wr,seval,wq,t5,t7,t48]
  exact aF hk (by omega) ⟨u,S,M,c,by rw[bd,dG,abb eg],P.sub (List.Sublist.cons_cons _ (cb.append_left _)),Q,w,G,t1,t5,t6,t7,t8,t47,rfl⟩
 have ae:bz g cl (bj g i)≠[]:=λe=>he (by rw[e];rfl)
 have fm:∃v,getM A (i:Int)=some v:=by
  cases hg:getM A (i:Int) with
  | none=>exact absurd (a7 i hg) ae
  | some v=>exact⟨v,rfl⟩
 obtain⟨v,hg⟩:=fm
 have cI:=ef ae
 rw[hg] at cI
 simp only[abp] at cI
 obtain⟨b,cN⟩:=MI hAnd hg
 have b2:(j9 g cl (A.filter λy=>decide (((i:Nat):Int)<=y.1))).Perm ((r,2,bh (bz g cl (bj g i)))::j9 g cl (A.filter λy=>decide (((i+1:Nat):Int)<=y.1))):=by
  have:=cN.map (λx:Int × V × Nat=>((x.2.1,2,bh (bz g cl (bj g x.1.toNat))):ez))
  simp only[abE,abM] at this
  rw[cI];exact this
 have fs:=Ao (S.map λx=>x.2.2) (bz g cl (bj g i))
 have gd:=zp (S.map λx=>x.2.2) (bz g cl (bj g i))
 rw[abc] at fs
 have b3:=G (bz g cl (bj g i)) b1
 have ei:at_<S.length:=by omega
 obtain⟨d,x,t,I,ab,Z⟩:=Ab ei
 have gk:x.2.2.cG.length<=40:=(iI.cG at_ x.2.2 (by rw[aba,Z];rfl)).1
 have a6:∀B,(fM (d++x::B)).getD at_ []=[x.1,x.2.1]:=λB=>by simp[fM,<-ab]
 have ej:∀(B:List rB) (c:fW),((d++x::B).map λx=>x.2.2).modify at_ (λs=>(⟨s.bA,s.cG++[c]⟩:ba))=(d++(x.1,x.2.1,(⟨x.2.2.bA,x.2.2.cG++[c]⟩:ba))::B).map λx=>x.2.2:=λB c=>by
  rw[abA,abE,<-ab,<-abc (f:=λx:rB=>x.2.2),Fk,abA,abE]
 simp(disch:=omega)only[↓wr,seval,wq,t1,aj,encS]
 apply ao.dec<;>intro ft
 simp(disch:=omega)only[↓wr,seval,wq,t1,t6,aj,encS]
 have hs:bj g i=(g.ax.length:Int)-1-i:=by unfold bj;rw[aa9 (by omega)];omega
 generalize (g.ax.length:Int)-1-(i:Int)=sv at hs ⊢
 rotate_left
 simp(disch:=omega)only[↓wr,seval,wq,t6]
 have hs:bj g i=(i:Int):=by unfold bj;rw[abb (by omega)]
 generalize ((i:Nat):Int)=sv at hs ⊢
 all_goals (
  refine ay.cF ((MG g N (bz g cl (bj g i)) b1 (by omega) r H' or).mono ?_)
  rintro rk H3 ⟨rfl,k3⟩
  have W:H3 q=.map (cQ jd M) c:=by rw[k3 q (by rw[w];simp),w]
  have bl:H3 U=.map (cQ (Value.int .i64) A) cA:=by rw[k3 U (by rw[Q];simp),Q]
  have o3:=P.stay k3
  have fv:aN H3 r 2 (bh (bz g cl (bj g i))):=or.keep λid C=>k3 id (by rw[(or.live C).1];simp)
  simp(disch:=omega)only[↓wr,seval,wq]
  refine Xm (kt:=9) (et:=3) (z:=gi 0) (by kernel_rfl) (by kernel_rfl) (Mx Tryz.underlying9) (id:=q) (c:=c) (m:=M) (k:=gU (bz g cl (bj g i))) (by simp(disch:=omega)only[↓wr,seval]) (by simp(disch:=omega)only[↓wr,seval]) W ?_
  by_cases J:findD (S.map λx=>x.2.2) (bz g cl (bj g i))<0
  rw[abb J] at b3
  rw[b3]
  simp only[Option.getD_none,Option.isSome_none]
  simp(disch:=omega)only[↓wr,seval,wq,t5,t6,aq]
  refine ay.cF ((MG g N (bz g cl (bj g i)) b1 (by omega) r H3 fv).mono ?_)
  rintro gr H4 ⟨rfl,k4⟩
  have bn:H4 q=.map (cQ jd M) c:=by rw[k4 q (by rw[W];simp),W]
  have cc:H4 U=.map (cQ (Value.int .i64) A) cA:=by rw[k4 U (by rw[bl];simp),bl]
  have o4:=o3.stay k4
  simp(disch:=omega)only[↓wr,seval,wq]
  refine yz (kt:=9) (et:=3) (by kernel_rfl) (Mx Tryz.underlying9) (id:=q) (c:=c) (m:=M) (k:=gU (bz g cl (bj g i))) (v:=gi S.length) (by simp(disch:=omega)only[↓wr,seval]) (by simp(disch:=omega)only[↓wr,seval]) (by simp(disch:=omega)only[↓wr,seval]) bn ?_
  intro L
  have R:ui g ((d++x::(t++[(r,.emp 1,(⟨bz g cl (bj g i),[]⟩:ba))])).map λx=>x.2.2) (bP (gU (bz g cl (bj g i))) (gi S.length) c M):=by
   have:=ui.put N G b1 J c
   rw[abc] at this
   refine this.same ?_
   rw[I];simp
  have K:(H4.set q (.map (cQ jd (bP (gU (bz g cl (bj g i))) (gi S.length) c M)) L)) q=.map (cQ jd (bP (gU (bz g cl (bj g i))) (gi S.length) c M)) L:=by simp[View.set]
  have X:(H4.set q (.map (cQ jd (bP (gU (bz g cl (bj g i))) (gi S.length) c M)) L)) U=.map (cQ (Value.int .i64) A) cA:=by
   simp only[View.set];rw[aa9 fb];exact cc
  have o5:=o4.F5 bn (o:=.map (cQ jd (bP (gU (bz g cl (bj g i))) (gi S.length) c M)) L)
  generalize H4.set q (.map (cQ jd (bP (gU (bz g cl (bj g i))) (gi S.length) c M)) L)=H5 at K X o5 ⊢
  clear bn cc o4 k4
  generalize bP (gU (bz g cl (bj g i))) (gi S.length) c M=M2 at R K
  simp(disch:=omega)only[↓wr,seval,wq,t5,or.cells,or.eL]
  intro q5 br
  simp(disch:=omega)only[↓wr,seval,wq,bD]
  have al:∀b,H5 b≠.dead->b≠q5:=λb hb e=>hb (by rw[e];exact br)
  refine dC (o5.fresh br) (by simp[or.eL,C9]) (by unfold aE;rw[dz];simp;omega) (by unfold aE;rw[dz];simp;omega) ?_
  intro u2 b4 ek cS
  have j:=cS.map (o5.fresh (o:=.arr 2 [[r,.emp 1]]) br).head (b:=q) (c:=L) (es:=cQ jd M2) (by simp only[View.set];rw[aa9 (al q (by rw[K];simp)),K])
  have F:=cS.map (o5.fresh (o:=.arr 2 [[r,.emp 1]]) br).head (b:=U) (c:=cA) (es:=cQ (Value.int .i64) A) (by simp only[View.set];rw[aa9 (al U (by rw[X];simp)),X])
  have eH:=(ek.emp (k:=1) (sz:=2)).perm (Zu b2)
  have an:dG g cl at_ (S.map λx=>x.2.2) i=((d++x::(t++[(r,.emp 1,(⟨bz g cl (bj g i),[]⟩:ba))])).map λx=>x.2.2).modify at_ (λs=>(⟨s.bA,s.cG++[⟨bj g i,(S.length:Int)⟩]⟩:ba)):=by
   rw[dG,aa9 ae,abb J,abc]
   congr 1
   rw[I];simp
  have p:bw b4 ((u2,2,fM (d++x::(t++[(r,.emp 1,(⟨bz g cl (bj g i),[]⟩:ba))])))::(nE (d++x::(t++[(r,.emp 1,(⟨bz g cl (bj g i),[]⟩:ba))]))++j9 g cl (A.filter λy=>decide (((i+1:Nat):Int)<=y.1)))):=by
   have e1:fM (d++x::(t++[(r,.emp 1,(⟨bz g cl (bj g i),[]⟩:ba))]))=fM S++[[r,.emp 1]]:=by rw[I];simp[fM]
   have e2:nE (d++x::(t++[(r,.emp 1,(⟨bz g cl (bj g i),[]⟩:ba))]))=nE S++[(r,2,bh (bz g cl (bj g i))),(.emp 1,2,[])]:=by rw[I];simp[nE];rfl
   rw[e1,e2]
   exact eH
  have cV:(d++x::(t++[(r,V.emp 1,(⟨bz g cl (bj g i),[]⟩:ba))])).length<=400:=by
   have:=ach List.length I
   simp at this ⊢;omega
  generalize (t++[(r,V.emp 1,(⟨bz g cl (bj g i),[]⟩:ba))])=B at an p R cV
  generalize (S.length:Int)=to at an ⊢
  clear ek eH cS K X o5 al br
  rotate_left
  rw[aa9 J] at b3
  rw[b3]
  simp only[abp,Option.isSome_some]
  simp(disch:=omega)only[↓wr,seval,wq,t5,t7]
  have an:dG g cl at_ (S.map λx=>x.2.2) i=((d++x::t).map λx=>x.2.2).modify at_ (λs=>(⟨s.bA,s.cG++[⟨bj g i,findD (S.map λx=>x.2.2) (bz g cl (bj g i))⟩]⟩:ba)):=by
   rw[dG,aa9 ae,aa9 J,<-I]
  have p:=o3.sub (List.Sublist.cons_cons _ (cb.append_left _))
  have R:=G
  have cV:(d++x::t).length<=400:=by rw[<-I];omega
  have j:=W
  have F:=bl
  generalize H3=b4 at p j F ⊢
  generalize u=u2 at p t5 ⊢
  rw[I] at p R
  generalize findD (S.map λx=>x.2.2) (bz g cl (bj g i))=to at an ⊢
  generalize t=B at an p R cV
  generalize M=M2 at j R
  generalize c=L at j
  all_goals (
   obtain⟨id,hu,C⟩:=(show aN b4 u2 2 (fM (d++x::B)) from p.head).sl (by rw[dz];simp;omega)
   rw[dz] at hu
   rw[C2] at p
   simp only[ace,abN] at p
   simp(disch:=omega)only[↓wr,seval,wq,t7,hu,C,a6 B]
   refine⟨by simp;omega,by rw[dz];simp;omega,?_⟩
   intro q2 O
   have al:∀b,b4 b≠.dead->b≠q2:=λb hb e=>hb (by rw[e];exact O)
   simp(disch:=omega)only[↓wr,seval,wq,bD]
   refine dC ((p.perm Kc).fresh O) (by simp[aK]) (by unfold aE;simp[k5];omega) (by unfold aE;simp[k5];omega) ?_
   intro e2 e3 b5 e4
   have bs:=e4.map ((p.perm Kc).fresh (o:=.arr 2 [[gi sv,gi to]]) O).head (b:=q) (c:=L) (es:=cQ jd M2) (by simp only[View.set];rw[aa9 (al q (by rw[j];simp)),j])
   have bx:=e4.map ((p.perm Kc).fresh (o:=.arr 2 [[gi sv,gi to]]) O).head (b:=U) (c:=cA) (es:=cQ (Value.int .i64) A) (by simp only[View.set];rw[aa9 (al U (by rw[F];simp)),F])
   have cf:e3 id=.arr 2 (fM (d++x::B)):=((b5.own 1 rfl).live (by rw[hu];rfl)).1
   simp(disch:=omega)only[↓wr,seval,wq,t5,t7,t48,hu,cf,a6 B,b5.head.cells,b5.head.eL]
   have e5:(fM (d++x::B)).set at_ [x.1,e2]=fM (d++(x.1,e2,(⟨x.2.2.bA,x.2.2.cG++[⟨bj g i,to⟩]⟩:ba))::B):=by
    rw[<-ab];simp[fM]
   have fx:k5 (x.2.2.cG++[⟨bj g i,to⟩])=k5 x.2.2.cG++[[gi sv,gi to]]:=by rw[hs];simp[k5,lY]
   have e6:=b5.perm (.swap _ _ _)
   rw[hu] at e6
   have c3:=((e6.put (es':=fM (d++(x.1,e2,(⟨x.2.2.bA,x.2.2.cG++[⟨bj g i,to⟩]⟩:ba))::B)) (by rw[dz,dz];simp) (by rw[dz])).perm (.swap _ _ _)).perm Kc.symm
   rw[<-fx] at c3
   rw[<-hu] at c3
   rw[e5]
   have ch:∀b c es,e3 b=.map es c->b≠id:=λb c es hb e=>by rw[e,cf] at hb;simp at hb
   refine⟨by simp;omega,by rw[dz];simp;omega,aF hk (by omega) ⟨u2,_,M2,L,?_,by rw[C2];simp only[ace,abN];exact c3,?_,?_,?_,t1,by first | rfl | exact t5 | exact hu.symm,t6,t7,t8,t47,rfl⟩⟩
   .rw[bd,an,ej];simp
   .simp only[View.set];rw[aa9 (ch U _ _ bx)];exact bx
   .simp only[View.set];rw[aa9 (ch q _ _ bs)];exact bs
   .refine R.same ?_
    simp))
end Gv
