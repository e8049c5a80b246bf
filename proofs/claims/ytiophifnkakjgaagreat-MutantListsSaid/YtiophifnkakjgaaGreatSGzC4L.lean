/-
  Part 12 of the proof: what the machine does and what the functions answer.
  Conditions: those that each lemma names.
-/
import Derived.Test.YtiophifnkakjgaaGreatSGzC4K
set_option linter.unusedSimpArgs false
set_option linter.unusedVariables false
set_option maxRecDepth 100000
set_option maxHeartbeats 20000000
namespace Gv
open Go Go.Proofs
def qe:SC:=
 ai [ai [ag [af 8 6,aw 9 1 2,au 10 9,aM 11 10,aS 12 .lss 8 11],bO 12 (.exit 0)],.block 1 (ai [ai [ag [aw 15 1 2,au 16 15,af 17 6,aL 18 1 16 17,au 19 18,aI 20 .geq 19 0],aX 20 (.exit 1)],ag [af 21 1,aw 22 1 2,au 23 22,af 24 6,aL 25 1 23 24,au 26 25,((some 27),.op (.arith .sub (.val (.val (.int .i64 (-1)))) (.tmp 26))),aL 28 1 21 27,au 29 28,af 7 29],ai [ag [af 30 7,aI 31 .eql 30 0],aX 31 (ai [ag [aT 4 0],.ret])],ag [af 32 5,af 33 7,((some 34),.op (.mm true (.tmp 32) (.tmp 33))),af 5 34]]),ag [af 13 6,aI 14 .add 13 1,af 6 14]]
def sY:SF:=⟨ai [ag [bZ 2 0,aT 4 0],ag [aT 5 0],ai [ag [aT 6 0],bR 0 qe],ag [af 35 5,aI 36 .add 35 1,af 4 36],.ret],
 [.tmp 4],37⟩
theorem yw:aJ aa 137 [2]=some sY:=by kernel_rfl
def nC:SC:=
 ai [ai [ag [af 25 6,aw 26 2 1,au 27 26,aM 28 27,aS 29 .lss 25 28],bO 29 (.exit 2)],.block 3 (ai [ag [aw 32 2 1,au 33 32,af 34 6,aL 35 3 33 34,aV 36 3 35,((some 7),.op (.alloc [(.val (.int .i64 0)),(.emp 1),(.val (.int .i64 0))])),cz 3 7 36],.region false [⟨none,[af 37 3,aw 38 0 7,au 39 38,aL 40 1 37 39,au 41 40,aI 42 .eql 41 0,af 43 42]⟩,⟨(some (43,true)),[aV 44 3 7,af 45 5,aU 46 137 [44,45],af 47 4,aS 48 .eql 46 47]⟩,⟨none,[dA 49 43 48]⟩],aX 49 (ag [af 50 3,aw 51 0 7,au 52 51,af 53 4,aL 54 1 50 52,cz 1 54 53])]),ag [af 30 6,aI 31 .add 30 1,af 6 31]]
def nH:SC:=
 ai [ai [ag [af 15 4,aw 16 1 1,au 17 16,aM 18 17,aS 19 .leq 15 18],bO 19 (.exit 0)],.block 1 (ai [ag [bL 22 2,af 23 3,eZ 24 1 8 22 23,af 5 24],ag [aT 6 0],bR 2 nC]),ag [af 20 4,aI 21 .add 20 1,af 4 21]]
def pg:SF:=⟨ai [ag [bZ 1 0,bL 2 1],ai [ag [aV 8 4 1,aU 9 50 [8],cO 10 9],aX 10 (ai [ag [bL 2 1],.ret])],ag [aw 11 1 1,au 12 11,aM 13 12,((some 14),.op (.make 1 8 [(.val (.int .i64 0))] (.tmp 13) (.tmp 13))),af 3 14],ai [ag [aT 4 1],bR 0 nH],ag [af 55 3,af 2 55],.ret],
 [.tmp 2],56⟩
theorem vU:aJ aa 136 [1]=some pg:=by kernel_rfl
theorem CY {h:List Int} {m:Nat} (hm:m<h.length):h[m]?=some (gC h m):=by simp[gC,hm]
theorem RD {h:List Int} {m:Nat} (hm:m<h.length):(aO h).getD m []=[gi (gC h m)]:=by simp[gC,hm]
def Wc (h:List Int):Prop:=∀m,0<=gC h m/\gC h m<=1000
theorem KQ {g:ak} (hr:g.rules.length<=40) {k:Nat} (hk:k<=16):Wc (fX (aH g k)):=λm=>by
 rw[ni]
 by_cases h:bK (aH g k) m
 .obtain⟨a,b,_⟩:=fH g k m h
  omega
 .rw[ko h];unfold j5;decide
theorem IZ (r:bf) (h:List Int) (j:Wc h) (l:Cd h.length r):aC aa 137 [.agg (aQ r),encI h] (gi (gx h r.right 0)):=by
 obtain⟨_,_,_,m,n⟩:=l
 refine aC.val (by
  intro v c;simp at c
  rcases c with rfl | rfl
  .exact bW _ (gh r)
  .exact bg h) λH=>?_
 refine az.of mixed yw ?_
 simp(disch:=omega)only[↓wr,seval,wq,sY,aQ,encI]
 refine aW.up r.right.length (λi T H'=>∃top:Int,0<=top/\top<=1000/\gx h (r.right.drop i) top=gx h r.right 0/\T 1=encI h/\T 2=.aR (aQ r) 0/\T 5=gi top/\T 6=gi i) ⟨0,by omega,by omega,rfl,rfl,rfl,rfl,rfl⟩ ?_
 rintro i k T H hk ⟨top,o,h1,a,t1,t2,t5,t6⟩
 simp(disch:=omega)only[↓wr,seval,wq,qe,t2,t6,aQ,encI]
 apply ao.dec<;>intro p
 .have e:r.right[i]?=some (r.right[i]'(by omega)):=aa8 (by omega)
  have b:r.right[i]'(by omega)∈r.right:=abe _
  rw[eO (show i<r.right.length by omega)] at a
  generalize r.right[i]'(by omega)=x at e b a
  obtain⟨⟨q,s⟩,f⟩:=n x b
  simp(disch:=omega)only[↓wr,seval,wq,t2,t6,aQ,encI,aba,e]
  apply ao.dec<;>intro g
  .simp(disch:=omega)only[↓wr,seval,wq,t5,t6]
   rw[gx,abb (show 0<=x from g)] at a
   exact aF hk (by omega) ⟨top,o,h1,a,t1,t2,t5,rfl⟩
  .have hm:cr x<h.length:=by have:=f (by omega);unfold cr;omega
   have d:=CY hm
   have t:=j (cr x)
   rw[gx,aa9 g] at a
   generalize gC h (cr x)=v at d t a
   simp(disch:=omega)only[↓wr,seval,wq,t1,t2,t6,aQ,encI,aba,e,d]
   apply ao.eq<;>intro c
   .simp(disch:=omega)only[↓wr,seval,wq,t5,t6]
    rw[abb c] at a
    rw[<-a]
   .simp(disch:=omega)only[↓wr,seval,wq,t5,t6,Si]
    rw[aa9 c] at a
    exact aF hk (by omega) ⟨_,by omega,by omega,a,t1,t2,rfl,rfl⟩
 .simp(disch:=omega)only[↓wr,seval,wq,t5]
  rw[aby (by omega),gx] at a
  rw[a]
def aaH (g:ak) (old:List Int) (k:Int) (b d i:Nat) (T:Env) (H:View):Prop:=
 ∃out:List Int,out.length=g.av.length/\(g.rules.drop i).foldl (lD old k) out=g.rules.foldl (lD old k) old/\b≠d/\H b=.arr 1 (aO out)/\H d=.arr 1 (aO old) /\
  T 1=.aR (aj g) 0/\T 3=.sl b 0 g.av.length 1/\T 4=gi k/\T 5=.sl d 0 g.av.length 1/\T 6=gi i
theorem Ci (g:ak) (D:g.Ok):bX aa 136 [.agg (aj g)] (encI (if bu g=true then fX (aA g) else [])):=by
 refine bX.of (dy g) ?_
 refine az.of mixed vU ?_
 have y:=D.av
 unfold aG at y
 simp(disch:=omega)only[↓wr,seval,wq,pg,aj,encS]
 refine ay.pure (jV g D) ?_
 repeat' (first | ((first|apply ao.dec|apply ao.eq|apply ao.ne|apply ao.split)<;>intro)|(simp(disch:=omega)only[↓wr,seval,wq]))
 .rename_i hr
  have A:=bF hr
  have N:=A.ly
  have z2:=A.av
  have z3:=A.rules
  rw[abb hr]
  try simp(disch:=omega)only[↓wr,seval,wq,aj,encS]
  refine⟨⟨by omega,by unfold aE;omega,by unfold aE;omega⟩,λh=>by omega,?_⟩
  intro _ b
  try simp(disch:=omega)only[↓wr,seval,wq,aj,encS]
  refine aW.up g.av.length (λj T H'=>H' b=.arr 1 (aO (fX (aH g j)))/\T 1=.aR (aj g) 0/\T 3=.sl b 0 g.av.length 1/\T 4=gi ((j:Int)+1)) ?_ ?_
  .refine⟨?_,rfl,rfl,rfl⟩
   simp[View.set,aH,iter,j5]
  rintro j k T H hk ⟨f,t1,t3,t4⟩
  simp(disch:=omega)only[↓wr,seval,wq,nH,t1,t4,aj,encS]
  apply ao.dec<;>intro K
  .have hlen:=fJ g j
   obtain⟨nl,v⟩:∃nl,g.av.length=nl+1:=⟨g.av.length-1,by omega⟩
   have he:bQ H (.sl b 0 g.av.length 1)=some (aO (fX (aH g j)),[b]):=by
    rw[v,j6 _ b 0 nl 1 1 _ f (by simp[hlen,v]),ab8,abo (by simp[hlen,v])]
   have E:(aO (fX (aH g j))).isEmpty=false:=by
    cases L:aH g j with
    | nil=>rw[L] at hlen;simp at hlen;omega
    | cons=>rfl
   simp(disch:=omega)only[↓wr,seval,wq,t3,he,wD _ _ _ _ _ _ _ E,hlen]
   refine⟨by simp[aK],⟨by unfold aE;omega,by unfold aE;omega⟩,λd t=>?_⟩
   have o:b≠d:=by rintro rfl;rw[f] at t;simp at t
   refine aW.up g.rules.length (aaH g (fX (aH g j)) ((j:Int)+1) b d) ⟨fX (aH g j),by simp[hlen],rfl,o,by simp[View.set,o,f],by simp[View.set],t1,t3,t4,rfl,rfl⟩ ?_
   clear t1 t3 t4 f he t
   rintro i q T H F ⟨out,w,a,_,f,t,t1,t3,t4,t5,t6⟩
   simp(disch:=omega)only[↓wr,seval,wq,nC,t1,t6,aj]
   apply ao.dec<;>intro G
   .have B:g.rules[i]?=some (g.rules[i]'(by omega)):=aa8 (by omega)
    have s:g.rules[i]'(by omega)∈g.rules:=abe _
    rw[eO (show i<g.rules.length by omega),abY] at a
    generalize g.rules[i]'(by omega)=r at B s a
    have I:=A.qU D s
    have O:=A.left r s
    have p:=RD (h:=out) (m:=r.left.toNat) (by omega)
    have C:=KQ (g:=g) z3 (show j<=16 by omega)
    have x:(fX (aH g j)).length=g.av.length:=by simp[hlen]
    unfold lD at a
    generalize fX (aH g j)=old at t C x a ⊢
    simp(disch:=omega)only[↓wr,seval,wq,t1,t3,t6,aj,aQ,encI,aba,B]
    intro n y
    have c:b≠n:=by rintro rfl;rw[f] at y;simp at y
    have u:d≠n:=by rintro rfl;rw[t] at y;simp at y
    try simp(disch:=omega)only[↓wr,seval,wq,f,c,p]
    refine⟨by omega,by omega,?_⟩
    apply ao.eq<;>intro J
    .simp(disch:=omega)only[↓wr,seval,wq,t5]
     refine ay.Av (IZ r old C (by rw[x];exact I)) (by kernel_rfl) (.val _) ⟨cm.tree (bW _ (gh r)),Gx (l:=old) (by simp[View.set,u,t]) x.symm,trivial⟩ ?_
     simp(disch:=omega)only[↓wr,seval,wq,t4]
     apply ao.eq<;>intro z
     .simp(disch:=omega)only[↓wr,seval,wq,t3,t4,t6,f,c,p]
      refine⟨by omega,by omega,?_⟩
      rw[abb ⟨J,z⟩] at a
      refine aF F (by omega) ⟨_,by simp[w],a,o,?_,by simp[View.set,o.symm,u,t],t1,t3,t4,t5,rfl⟩
      simp only[View.set,if_true]
      rw[<-TW]
     .simp(disch:=omega)only[↓wr,seval,wq,t3,t4,t6]
      rw[aa9 (λe=>z e.2)] at a
      exact aF F (by omega) ⟨out,w,a,o,by simp[View.set,c,f],by simp[View.set,u,t],t1,t3,t4,t5,rfl⟩
    .simp(disch:=omega)only[↓wr,seval,wq,t3,t4,t6]
     rw[aa9 (λe=>J e.1)] at a
     exact aF F (by omega) ⟨out,w,a,o,by simp[View.set,c,f],by simp[View.set,u,t],t1,t3,t4,t5,rfl⟩
   .simp(disch:=omega)only[↓wr,seval,wq,t3,t4]
    rw[aby (by omega),adi,XS] at a
    rw[a] at f
    exact aF hk (by omega) ⟨f,t1,t3,rfl⟩
  .simp(disch:=omega)only[↓wr,seval,wq,t3]
   intro M z
   have:j=g.av.length:=by omega
   subst this
   exact jq (by rw[z];exact .inr ⟨b,by simp[gP],f⟩)
 .rename_i hr
  rw[hr]
  intro M z
  exact .emp _
def pq:SC:=
 ai [ai [ag [af 20 7,aI 21 .geq 20 0],bO 21 (.exit 2)],.block 3 (ai [.region true [⟨none,[aw 24 2 1,au 25 24,af 26 7,aL 27 3 25 26,aw 28 0 27,au 29 28,af 30 5,aS 31 .eql 29 30,af 32 31]⟩,⟨(some (32,true)),[af 33 3,af 34 5,aL 35 1 33 34,au 36 35,aI 37 .gtr 36 0]⟩,⟨none,[dA 38 32 37,af 39 38]⟩,⟨(some (39,true)),[aw 40 2 1,au 41 40,af 42 7,aL 43 3 41 42,aV 44 3 43,af 45 3,aU 46 137 [44,45],af 47 3,af 48 5,aL 49 1 47 48,au 50 49,aS 51 .eql 46 50]⟩,⟨none,[dA 52 39 51]⟩],aX 52 (ag [af 53 7,af 6 53])]),ag [af 22 7,aI 23 .sub 22 1,af 7 23]]
def kS:SC:=
 ai [ai [ag [af 10 5,af 11 3,aM 12 11,aS 13 .lss 10 12],bO 13 (.exit 0)],.block 1 (ai [ag [aT 6 (-1)],ai [ag [aw 16 2 1,au 17 16,aM 18 17,aI 19 .sub 18 1,af 7 19],bR 2 pq],ag [af 54 4,af 55 6,((some 56),.op (.bH 1 1 [(.val (.int .i64 0))] [(0,(.tmp 55))])),eZ 57 1 8 54 56,af 4 57]]),ag [af 14 5,aI 15 .add 14 1,af 5 15]]
def rG:SF:=⟨ai [ag [bZ 1 0,bL 2 1],ag [aV 8 4 1,aU 9 136 [8],af 3 9],ag [bL 4 1],ai [ag [aT 5 0],bR 0 kS],ag [af 58 4,af 2 58],.ret],
 [.tmp 2],59⟩
theorem xN:aJ aa 73 [1]=some rG:=by kernel_rfl
theorem QT {h:List Int} {m:Nat} {l:List bf} {c:Nat} {r:bf} (hr:l[c]?=some r):lU h m (l.drop c) c=if r.left=(m:Int)/\0<gC h m/\gx h r.right 0=gC h m then (c:Int) else lU h m (l.drop (c+1)) ((c:Int)+1):=by
 have a:c<l.length:=(abf.1 hr).1
 have he:l[c]=r:=(abf.1 hr).2
 rw[abS a,he,lU]
def aaw (g:ak) (h:List Int) (u:V) (j c:Nat) (T:Env) (H:View):Prop:=
 c<=g.rules.length/\T 1=.aR (aj g) 0/\T 3=encI h/\T 4=u/\aN H u 1 (aO ((List.range j).map λm=>lU h m g.rules 0))/\T 5=gi j/\T 6=gi (lU h j (g.rules.drop c) c)/\T 7=gi ((c:Int)-1)
theorem GR (g:ak) (A:g.Ok):bX aa 73 [.agg (aj g)] (encI (if bu g=true then iV g else [])):=by
 refine bX.of (dy g) ?_
 refine az.of mixed xN ?_
 simp(disch:=omega)only[↓wr,seval,wq,rG,aj,encS]
 refine ay.pure (Ci g A).pure ?_
 by_cases hr:bu g=true
 .have l:=bF hr
  have J:=l.ly
  have z2:=l.av
  have z3:=l.rules
  rw[abb hr,abb hr]
  have t:iV g=(List.range g.av.length).map λm=>lU (fX (aA g)) m g.rules 0:=by
   apply ab2 (by simp[iV,gP])
   intro m h1 q
   simp only[iV,ac4,adl]
   rw[Q6 (λr v=>(l.left r v).1)]
   have:m<(aA g).length:=by simpa [iV] using h1
   simp[bB,this]
  have o:Wc (fX (aA g)):=KQ z3 z2
  have p:(fX (aA g)).length=g.av.length:=by simp[gP]
  rw[t]
  generalize fX (aA g)=h at o p ⊢
  simp(disch:=omega)only[↓wr,seval,wq,encI]
  refine aW.up g.av.length (λj T H'=>∃u,T 4=u/\aN H' u 1 (aO ((List.range j).map λm=>lU h m g.rules 0))/\T 1=.aR (aj g) 0/\T 3=encI h/\T 5=gi j) ⟨_,rfl,.nil,rfl,rfl,rfl⟩ ?_
  rintro j k T H hk ⟨u,t4,b,t1,t3,t5⟩
  simp(disch:=omega)only[↓wr,seval,wq,kS,t3,t5,encI]
  apply ao.dec<;>intro s
  .have i:=CY (h:=h) (m:=j) (by omega)
   simp(disch:=omega)only[↓wr,seval,wq,t1,aj]
   refine aW.intro (aaw g h u j) g.rules.length ?_ ?_
   .refine⟨by omega,t1,t3,t4,b,t5,?_,rfl⟩
    rw[aby (by omega)];rfl
   clear t1 t3 t4 t5 b
   rintro c T H ⟨D,t1,t3,t4,b,t5,t6,t7⟩
   simp(disch:=omega)only[↓wr,seval,wq,pq,t7]
   apply ao.dec<;>intro w
   .obtain⟨c,rfl⟩:∃E,c=E+1:=⟨c-1,by omega⟩
    have a:g.rules[c]?=some (g.rules[c]'(by omega)):=aa8 (by omega)
    have f:g.rules[c]'(by omega)∈g.rules:=abe _
    generalize g.rules[c]'(by omega)=r at a f
    have x:=l.qU A f
    have d:=QT (h:=h) (m:=j) a
    have B:(((c+1:Nat):Int)-1)=(c:Int):=by omega
    rw[B] at t7
    try simp only[B]
    rw[show (((c+1:Nat):Int))=(c:Int)+1 by omega] at t6
    simp(disch:=omega)only[↓wr,seval,wq,t1,t5,t7,encI,aj,aQ,aba,a]
    apply ao.eq<;>intro h1
    .simp(disch:=omega)only[↓wr,seval,wq,t3,t5,encI,aba,i]
     apply ao.dec<;>intro q
     .simp(disch:=omega)only[↓wr,seval,wq,t1,t3,t7,encI,aj,aQ,aba,a]
      refine ay.pure (IZ r h o (by rw[p];exact x)) ?_
      simp(disch:=omega)only[↓wr,seval,wq,t3,t5,encI,aba,i]
      apply ao.eq<;>intro y
      .simp(disch:=omega)only[↓wr,seval,wq,t4,t5,t7]
       refine⟨c,by omega,by omega,t1,t3,t4,b,t5,?_,rfl⟩
       rw[d,abb ⟨h1,q,y⟩];rfl
      .simp(disch:=omega)only[↓wr,seval,wq,t4,t5,t6,t7]
       refine⟨c,by omega,by omega,t1,t3,t4,b,t5,?_,rfl⟩
       rw[d,aa9 (λe=>y e.2.2)];exact t6
     .simp(disch:=omega)only[↓wr,seval,wq,t4,t5,t6,t7]
      refine⟨c,by omega,by omega,t1,t3,t4,b,t5,?_,rfl⟩
      rw[d,aa9 (λe=>q e.2.1)];exact t6
    .simp(disch:=omega)only[↓wr,seval,wq,t4,t5,t6,t7]
     refine⟨c,by omega,by omega,t1,t3,t4,b,t5,?_,rfl⟩
     rw[d,aa9 (λe=>h1 e.1)];exact t6
   .have F:c=0:=by omega
    subst F
    simp only[ab8,Int.natCast_zero] at t6
    simp(disch:=omega)only[↓wr,seval,wq,t4,t5,t6]
    intro n G
    rw[bD]
    simp(disch:=omega)only[↓wr,seval,wq,t4]
    refine dw (b.fresh G) (by simp[aK]) (by unfold aE;simp;omega) (by unfold aE;simp;omega) ?_
    intro u' H' z _
    simp(disch:=omega)only[↓wr,seval,wq,t4,t5,t6]
    refine aF hk (by omega) ⟨u',rfl,?_,t1,t3,rfl⟩
    rw[acD];simpa using z
  .simp(disch:=omega)only[↓wr,seval,wq,t4]
   intro I C
   have:j=g.av.length:=by omega
   subst this
   exact jq (by rw[C];exact b)
 .have hr:bu g=false:=by simpa using hr
  rw[hr]
  simp(disch:=omega)only[↓wr,seval,wq,encI]
  refine aW.up 0 (λj T H'=>T 3=.aY []/\T 4=.emp 1/\T 5=gi j) ⟨rfl,rfl,rfl⟩ ?_
  rintro j k T H hk ⟨t3,t4,t5⟩
  simp(disch:=omega)only[↓wr,seval,wq,kS,t3,t5]
  refine ao.dec (λs=>absurd s (by simp)) (λs=>?_)
  simp(disch:=omega)only[↓wr,seval,wq,t4]
  intro I C
  exact .emp _
def fF (s:Int × Int):List V:=[gi s.1,gi s.2]
abbrev GO (S:List (Int × Int)):V:=.aY (S.map fF)
theorem wJ (s:Int × Int):∀v∈fF s,Tree v:=by
 intro v a;simp[fF] at a
 rcases a with rfl | rfl<;>exact .val _
theorem QP (S:List (Int × Int)):Tree (GO S):=eA _ _ λs _ v a=>wJ s v a
theorem W6 (h:Heap) (s:Int × Int):dF h (.agg (fF s)) (.agg (fF s)):=.agg _ _ rfl λi hi=>by
 match i,hi with
 | 0,_=>exact .val _
 | 1,_=>exact .val _
 | n+2,h=>exact absurd h (by simp[fF])
def lF (s:Int × Int):Prop:=(0<=s.1/\s.1<=1000)/\(0<=s.2/\s.2<=1000)
theorem Hc {a b:Int × Int} (c:lF a) (d:lF b):lF (qL a b):=by unfold lF qL at *;simp only;omega
theorem Zy {x:Int} : (if x<1000 then x else 1000)=min 1000 x:=by omega
def s6:SF:=⟨ai [ag [bZ 2 0,bZ 3 1,((some 4),.op (.alloc [(.val (.int .i64 0)),(.val (.int .i64 0))]))],ag [aw 5 0 2,au 6 5,aw 7 0 3,au 8 7,aS 9 .add 6 8,((some 10),.op (.mm false (.val (.val (.int .i64 1000))) (.tmp 9))),aw 11 1 2,au 12 11,aw 13 1 3,au 14 13,aS 15 .add 12 14,((some 16),.op (.mm false (.val (.val (.int .i64 1000))) (.tmp 15))),((some 17),.op (.build [(.val (.int .i64 0)),(.val (.int .i64 0))] [(0,1,(.tmp 10)),(1,1,(.tmp 16))])),cz 2 4 17],.ret],
 [.cell 4 (some 2)],18⟩
theorem y6:aJ aa 138 [2,3]=some s6:=by kernel_rfl
def qJ:SC:=
 ai [ai [ag [af 8 6,af 9 0,aM 10 9,aS 11 .lss 8 10],bO 11 (.exit 0)],.block 1 (ai [ag [af 14 0,af 15 6,aL 16 1 14 15,au 17 16,aI 18 .geq 17 0],.cond (.tmp 18) (ag [aV 19 2 5,((some 20),.op (.build [(.val (.int .i64 0)),(.val (.int .i64 0))] [(1,1,(.val (.val (.int .i64 1))))])),aU 21 138 [19,20],cz 2 5 21]) (ag [aV 22 2 5,af 23 1,af 24 0,af 25 6,aL 26 1 24 25,au 27 26,((some 28),.op (.arith .sub (.val (.val (.int .i64 (-1)))) (.tmp 27))),aL 29 2 23 28,aV 30 2 29,aU 31 138 [22,30],cz 2 5 31])]),ag [af 12 6,aI 13 .add 12 1,af 6 13]]
def tY:SF:=⟨ai [ag [((some 4),.op (.alloc [(.val (.int .i64 0)),(.val (.int .i64 0))]))],ag [((some 7),.op (.build [(.val (.int .i64 0)),(.val (.int .i64 0))] [])),((some 5),.op (.alloc [(.val (.int .i64 0)),(.val (.int .i64 0))])),cz 2 5 7],ai [ag [aT 6 0],bR 0 qJ],ag [aV 32 2 5,cz 2 4 32],.ret],
 [.cell 4 (some 2)],33⟩
theorem yJ:aJ aa 75 []=some tY:=by kernel_rfl
theorem Ht (a b:Int × Int) (d:lF a) (e:lF b):bX aa 138 [.agg (fF a),.agg (fF b)] (.agg (fF (qL a b))):=by
 unfold lF at d e
 refine bX.of (by
  intro v c;simp at c
  rcases c with rfl | rfl
  .exact bW _ (wJ a)
  .exact bW _ (wJ b)) ?_
 refine az.of mixed y6 ?_
 simp(disch:=omega)only[↓wr,seval,wq,s6,fF,Zy]
 intro n f _
 exact W6 f (qL a b)
theorem Ya {H:View} {id n:Nat} {S:List (Int × Int)} (a:H id=.arr 2 (S.map fF)) (b:n=S.length):cm H (.sl id 0 n 2) (GO S):=by
 subst b
 exact cm.own (sz:=2) (.inr ⟨id,by simp,a⟩) λe he v a=>by
  obtain⟨x,_,rfl⟩:=abt.1 he
  exact wJ x v a
theorem X6 {S:List (Int × Int)} {m:Nat} (hm:m<S.length):(S.map fF)[m]?=some (fF (lC S m)):=by simp[lC,hm]
theorem O0 (l:List Int) (S:List (Int × Int)) (y:aG l) (A:∀m,lF (lC S m)) (B:∀x∈l,bm x/\(x<0->-1-x<S.length)):bX aa 75 [encI l,GO S] (.agg (fF (oG S l (0,0)))):=by
 unfold aG at y
 refine bX.of (by
  intro v w;simp at w
  rcases w with rfl | rfl
  .exact bg l
  .exact QP S) ?_
 refine az.of mixed yJ ?_
 simp(disch:=omega)only[↓wr,seval,wq,tY,encI]
 intro n o f
 try simp(disch:=omega)only[↓wr,seval,wq,encI]
 have c:n≠o:=λe=>by subst e;simp at f
 refine aW.up l.length (λi T H'=>∃s:Int × Int,lF s/\oG S (l.drop i) s=oG S l (0,0)/\H' o=.arr 2 [fF s]/\(∃z,H' n=.arr 2 [[z,z]])/\T 0=encI l/\T 1=GO S/\T 4=.ptr n 0 0/\T 5=.ptr o 0 0/\T 6=gi i) ?_ ?_
 .exact⟨(0,0),by unfold lF;simp,rfl,by simp[View.set,fF],⟨gi 0,by simp[View.set,c]⟩,rfl,rfl,rfl,rfl,rfl⟩
 clear f
 rintro i k T H hk ⟨s,g,a,hH,⟨z,p⟩,t0,t1,t4,t5,t6⟩
 have q:=g
 unfold lF at q
 simp(disch:=omega)only[↓wr,seval,wq,qJ,t0,t6,encI]
 apply ao.dec<;>intro C
 .have r:l[i]?=some (l[i]'(by omega)):=aa8 (by omega)
  have b:l[i]'(by omega)∈l:=abe _
  rw[eO (show i<l.length by omega),oG] at a
  generalize l[i]'(by omega)=x at r b a
  obtain⟨⟨D,E⟩,t⟩:=B x b
  simp(disch:=omega)only[↓wr,seval,wq,t0,t6,encI,aba,r]
  apply ao.dec<;>intro u
  .rw[abb (show 0<=x from u)] at a
   simp(disch:=omega)only[↓wr,seval,wq,t5,hH,fF]
   refine ay.pure (Ht s (0,1) g (by unfold lF;simp)).pure ?_
   have h:=Hc g (show lF (0,1) by unfold lF;simp)
   generalize qL s (0,1)=s2 at a h
   simp(disch:=omega)only[↓wr,seval,wq,t4,t5,t6,hH,fF]
   refine aF hk (by omega) ⟨s2,h,a,by simp[View.set],⟨z,by simp[View.set,c,p]⟩,t0,t1,t4,t5,rfl⟩
  .rw[aa9 (show ¬ 0<=x from u)] at a
   have hm:cr x<S.length:=by have:=t (by omega);unfold cr;omega
   have j:=X6 hm
   have d:=A (cr x)
   generalize lC S (cr x)=s1 at a j d
   simp(disch:=omega)only[↓wr,seval,wq,t0,t1,t5,t6,hH,encI,aba,r,j,fF]
   refine ay.pure (Ht s s1 g d).pure ?_
   have h:=Hc g d
   generalize qL s s1=s2 at a h
   simp(disch:=omega)only[↓wr,seval,wq,t4,t5,t6,hH,fF]
   refine aF hk (by omega) ⟨s2,h,a,by simp[View.set],⟨z,by simp[View.set,c,p]⟩,t0,t1,t4,t5,rfl⟩
 .simp(disch:=omega)only[↓wr,seval,wq,t4,t5,hH,p,fF]
  rw[aby (by omega),oG] at a
  intro F _
  rw[<-a]
  exact W6 F s
def pH:SC:=
 ai [ai [ag [af 21 7,af 22 3,aM 23 22,aS 24 .lss 21 23],bO 24 (.exit 2)],.block 3 (ai [ag [af 27 3,af 28 7,aL 29 1 27 28,au 30 29,af 31 6,aS 32 .eql 30 31],aX 32 (ag [af 33 5,af 34 7,((some 35),.op (.build [(.val (.int .i64 0)),(.val (.int .i64 0))] [(0,1,(.val (.val (.int .i64 1))))])),aw 36 2 1,au 37 36,af 38 4,af 39 7,aL 40 1 38 39,au 41 40,aL 42 3 37 41,aw 43 1 42,au 44 43,af 45 5,aU 46 75 [44,45],aU 47 138 [35,46],aL 48 2 33 34,cz 2 48 47])]),ag [af 25 7,aI 26 .add 25 1,af 7 26]]
def po:SC:=
 ai [ai [ag [af 15 6,af 16 3,aM 17 16,aS 18 .leq 15 17],bO 18 (.exit 0)],.block 1 (ai [ag [aT 7 0],bR 2 pH]),ag [af 19 6,aI 20 .add 19 1,af 6 20]]
def rj:SF:=⟨ai [ag [bZ 1 0,bL 2 1],.region true [⟨none,[aV 8 4 1,aU 9 136 [8],aV 10 4 1,aU 11 73 [10],af 3 9,af 4 11]⟩],ag [af 12 3,aM 13 12,((some 14),.op (.make 2 16 [(.val (.int .i64 0)),(.val (.int .i64 0))] (.tmp 13) (.tmp 13))),af 5 14],ai [ag [aT 6 1],bR 0 po],ag [af 49 5,af 2 49],.ret],
 [.tmp 2],50⟩
theorem xR:aJ aa 76 [1]=some rj:=by kernel_rfl
theorem Km {S:List (Int × Int)} (a:∀m,lF (lC S m)):∀(l:List Int) (s:Int × Int),lF s->lF (oG S l s)
 | [],_,h=>h
 | x::l,s,h=>Km a l _ (Hc h (by
  split; · unfold lF;simp
  .exact a _))
def mY (g:ak):List (Int × Int):=(aA g).map lT
theorem CT:lT j5=(0,0):=by decide
theorem Ej (g:ak) (m:Nat):lC (mY g) m=lT (bB (aA g) m):=by
 simp only[mY,lC,bB,aa7,aba]
 cases (aA g)[m]? <;> rfl
theorem RK (g:ak) (m:Nat):lF (lT (bB (aA g) m)):=by
 have h:eX (bB (aA g) m):=j7 g _ m
 unfold eX at h
 unfold lF lT;simp only;omega
def jZ (g:ak) (j i:Nat) (S:List (Int × Int)):Prop:=S.length=g.av.length/\∀m,lC S m=if (bB (aA g) m).bJ<=j∨((bB (aA g) m).bJ=j+1/\m<i) then lT (bB (aA g) m) else (0,0)
theorem jZ.ok {g:ak} {j i:Nat} {S:List (Int × Int)} (h:jZ g j i S) (m:Nat):lF (lC S m):=by
 rw[h.2 m];split
 .exact RK g m
 .unfold lF;simp
theorem XN {S:List (Int × Int)} {i m:Nat} {v:Int × Int} (hm:m<S.length):lC (S.set i v) m=if i=m then v else lC S m:=by
 simp only[lC,aa7,ab1]
 split
 .rename_i e;subst e;simp[hm]
 .rfl
theorem jZ.next {g:ak} {j i:Nat} {S:List (Int × Int)} (h:jZ g j i S) (hi:(bB (aA g) i).bJ≠(j:Int)+1):jZ g j (i+1) S:=⟨h.1,λm=>by
 rw[h.2 m]
 by_cases e:m=i
 .subst e
  by_cases h1:(bB (aA g) m).bJ<=j
  .rw[abb (.inl h1),abb (.inl h1)]
  .rw[aa9 (by omega),aa9 (by omega)]
 .congr 1
  simp only[eq_iff_iff]
  constructor<;>rintro (h1 | h1)<;>first | exact .inl h1 | exact .inr ⟨h1.1,by omega⟩⟩
theorem jZ.put {g:ak} {j i:Nat} {S:List (Int × Int)} (h:jZ g j i S) (hi:(bB (aA g) i).bJ=(j:Int)+1) (a:i<g.av.length):jZ g j (i+1) (S.set i (lT (bB (aA g) i))):=⟨by simp[h.1],λm=>by
 by_cases hm:m<S.length
 .rw[XN hm]
  by_cases e:i=m
  .subst e;rw[abb rfl,abb (.inr ⟨hi,by omega⟩)]
  .rw[aa9 e,h.2 m]
   congr 1
   simp only[eq_iff_iff]
   constructor<;>rintro (h1 | h1)<;>first | exact .inl h1 | exact .inr ⟨h1.1,by omega⟩
 .have:bB (aA g) m=j5:=y3 (by rw[gP,<-h.1];omega)
  have e:lC (S.set i (lT (bB (aA g) i))) m=(0,0):=by
   simp only[lC,aa7];rw[abL (by simp;omega)];rfl
  rw[e,this]
  split<;>simp[CT]⟩
theorem jZ.V4 {g:ak} {j:Nat} {S:List (Int × Int)} (h:jZ g j g.av.length S):jZ g (j+1) 0 S:=⟨h.1,λm=>by
 rw[h.2 m]
 by_cases hm:m<g.av.length
 .congr 1
  simp only[eq_iff_iff]
  push_cast
  constructor
  .rintro (h1 | h1)<;>left<;>omega
  .rintro (h1 | h1)
   .omega
   .omega
 .have:bB (aA g) m=j5:=y3 (by rw[gP];omega)
  rw[this];split<;>split<;>simp[CT]⟩
theorem jZ.start (g:ak):jZ g 0 0 (List.replicate g.av.length (0,0)):=⟨by simp,λm=>by
 have e:lC (List.replicate g.av.length (0,0)) m=(0,0):=by
  simp only[lC,aa7,ab0]
  split<;>rfl
 rw[e]
 split
 .rename_i h
  by_cases hk:bK (aA g) m
  .have:=(lQ hk).1;omega
  .rw[zR hk];simp[CT]
 .rfl⟩
theorem jZ.done {g:ak} {S:List (Int × Int)} (h:jZ g g.av.length 0 S):S=mY g:=by
 apply ab2 (by simp[h.1,mY,gP])
 intro m h1 a
 have e:S[m]=lC S m:=by simp[lC,h1]
 have b:(mY g)[m]=lC (mY g) m:=by simp[lC,a]
 rw[e,b,h.2 m,Ej]
 by_cases hk:bK (aA g) m
 .rw[abb (.inl (lQ hk).2)]
 .rw[zR hk];split<;>simp[CT]
theorem VS (g:ak) (B:g.Ok) (hr:bu g=true):bX aa 76 [.agg (aj g)] (GO (mY g)):=by
 refine bX.of (dy g) ?_
 refine az.of mixed xR ?_
 simp(disch:=omega)only[↓wr,seval,wq,rj,aj,encS]
 refine ay.pure (Ci g B).pure ?_
 simp(disch:=omega)only[↓wr,seval,wq]
 refine ay.pure (GR g B).pure ?_
 have A:=bF hr
 have W:=A.ly
 have z2:=A.av
 have z3:=A.rules
 rw[abb hr,abb hr]
 have a:=gP g
 simp(disch:=omega)only[↓wr,seval,wq,encI,a]
 refine⟨⟨by omega,by unfold aE;omega,by unfold aE;omega⟩,λh=>by omega,?_⟩
 intro _ b
 try simp(disch:=omega)only[↓wr,seval,wq]
 refine aW.up g.av.length (λj T H'=>∃S,jZ g j 0 S/\H' b=.arr 2 (S.map fF)/\T 1=.aR (aj g) 0/\T 3=encI (fX (aA g))/\T 4=encI (iV g)/\T 5=.sl b 0 g.av.length 2/\T 6=gi ((j:Int)+1)) ?_ ?_
 .refine⟨_,.start g,?_,rfl,rfl,rfl,rfl,rfl⟩
  simp[View.set,fF]
 rintro j k T H hk ⟨S,c,d,t1,t3,t4,t5,t6⟩
 simp(disch:=omega)only[↓wr,seval,wq,po,t3,t6,encI,a]
 apply ao.dec<;>intro L
 .simp(disch:=omega)only[↓wr,seval,wq]
  refine aW.up g.av.length (λi T H'=>∃S,jZ g j i S/\H' b=.arr 2 (S.map fF)/\T 1=.aR (aj g) 0/\T 3=encI (fX (aA g))/\T 4=encI (iV g)/\T 5=.sl b 0 g.av.length 2/\T 6=gi ((j:Int)+1)/\T 7=gi i) ⟨S,c,d,t1,t3,t4,t5,t6,rfl⟩ ?_
  clear t1 t3 t4 t5 t6 c d
  rintro i q T H I ⟨S,c,d,t1,t3,t4,t5,t6,t7⟩
  simp(disch:=omega)only[↓wr,seval,wq,pH,t3,t7,encI,a]
  apply ao.dec<;>intro C
  .have p:=CY (h:=fX (aA g)) (m:=i) (by simp;omega)
   rw[ni] at p
   simp(disch:=omega)only[↓wr,seval,wq,t3,t6,t7,encI,aba,p]
   apply ao.eq<;>intro hi
   .have s:bK (aA g) i:=by
     by_cases h:bK (aA g) i
     .exact h
     .rw[zR h] at hi;simp[j5] at hi;omega
    obtain⟨D,r,f,M,N,E,_⟩:=oc s
    have t:(bB (aA g) i).aB=D:=by rw[E];rfl
    have u:=CY (h:=iV g) (m:=i) (by simp[iV,a];omega)
    have F:gC (iV g) i=D:=by
     rw[<-t];simp[iV,gC,bB,a,show i<g.av.length by omega]
    rw[F] at u
    have l:=abi f
    have O:D<g.rules.length:=(abf.1 f).1
    have v:=B.aB r l
    simp(disch:=omega)only[↓wr,seval,wq,t1,t4,t5,t7,encI,aj,aQ,aba,u,f]
    refine ay.gV (O0 r.right S v.2.2.1 c.ok λx J=>⟨v.2.2.2 x J,λP=>by rw[c.1];exact A.neg l J P⟩) (by kernel_rfl) ⟨cm.tree (bg r.right),Ya d c.1.symm,trivial⟩ ?_
    have w:=Us (S:=S) s f t λk Q R=>by rw[c.2 k,abb (.inl (by omega))]
    have y:lF (oG S r.right (0,0)):=Km c.ok _ _ (by unfold lF;simp)
    generalize oG S r.right (0,0)=z at w y
    simp(disch:=omega)only[↓wr,seval,wq]
    refine ay.pure (Ht (1,0) z (by unfold lF;simp) y).pure ?_
    rw[w]
    simp(disch:=omega)only[↓wr,seval,wq,t5,t6,t7,d,fF]
    have U:=c.1
    have G:(S.map fF).getD i []=fF (lC S i):=by simp[lC,show i<S.length by omega]
    refine⟨by omega,by omega,aF I (by omega) ⟨_,c.put hi (by omega),?_,t1,t3,t4,t5,t6,rfl⟩⟩
    simp only[View.set,if_true]
    rw[acR,G];simp only[fF,adh,List.drop_nil]
   .simp(disch:=omega)only[↓wr,seval,wq,t5,t6,t7]
    exact aF I (by omega) ⟨S,c.next hi,d,t1,t3,t4,t5,t6,rfl⟩
  .simp(disch:=omega)only[↓wr,seval,wq,t5,t6]
   have o:i=g.av.length:=by omega
   subst o
   exact aF hk (by omega) ⟨S,c.V4,d,t1,t3,t4,t5,rfl⟩
 .simp(disch:=omega)only[↓wr,seval,wq,t5]
  have o:j=g.av.length:=by omega
  subst o
  rw[c.done] at d
  intro X V
  exact dF.own (sz:=2) (.inr ⟨b,by simp[mY,a],by rw[V];exact d⟩) rfl (λi _=>rfl) (λi j hi K=>by
   simp only[abc] at hi
   have e:((mY g).map fF).getD i []=fF (mY g)[i]:=by simp[hi]
   rw[e] at K ⊢
   match j,K with
   | 0,_=>exact .val _
   | 1,_=>exact .val _
   | n+2,h=>exact absurd h (by simp[fF]))
def qN:SC:=
 ai [ai [ag [af 9 8,af 10 1,aM 11 10,aS 12 .lss 9 11],bO 12 (.exit 0)],.block 1 (ai [ag [af 15 1,af 16 8,aL 17 1 15 16,au 18 17,aI 19 .geq 18 0],.cond (.tmp 19) (ag [af 20 7,af 21 1,af 22 8,aL 23 1 21 22,au 24 23,((some 25),.op (.bH 1 1 [(.val (.int .i64 0))] [(0,(.tmp 24))])),eZ 26 1 8 20 25,af 7 26]) (ag [af 27 7,aV 28 4 3,aw 29 2 3,au 30 29,af 31 2,af 32 1,af 33 8,aL 34 1 32 33,au 35 34,((some 36),.op (.arith .sub (.val (.val (.int .i64 (-1)))) (.tmp 35))),aL 37 1 31 36,au 38 37,aL 39 3 30 38,aw 40 1 39,au 41 40,af 42 2,aU 43 77 [28,41,42],eZ 44 1 8 27 43,af 7 44])]),ag [af 13 8,aI 14 .add 13 1,af 8 14]]
def tI:SF:=⟨ai [ag [bZ 3 0,bL 6 1],ag [bL 7 1],ai [ag [aT 8 0],bR 0 qN],ag [af 45 7,af 6 45],.ret],
 [.tmp 6],46⟩
theorem zg:aJ aa 77 [3]=some tI:=by kernel_rfl
theorem EV {g:ak} {m:Nat} (h:m<g.av.length):(iV g)[m]?=some (bB (aA g) m).aB:=by
 have:m<(aA g).length:=by rw[gP];exact h
 simp[iV,bB,this]
theorem SM (g:ak) (f:Nat) (l:List Int) (i:Nat):(fw g (aA g) f (l.take i)).length<=(fw g (aA g) f l).length:=by
 have:=jO g (aA g) f (l.take i) (l.drop i)
 rw[ac8] at this
 rw[this];simp
theorem IC (g:ak) (f:Nat) (l:List Int) (i:Nat):(dV g (aA g) f (l.take i)).length<=(dV g (aA g) f l).length:=by
 have:=gn g (aA g) f (l.take i) (l.drop i)
 rw[ac8] at this
 rw[this];simp
theorem S5 (g:ak) (L:g.Ok) (M:g.c5):∀(f:Nat) (l:List Int),aG l->(∀x∈l,bm x/\(x<0->-1-x<g.av.length))->DR (aA g) f l->(dV g (aA g) f l).length<=100000->∀H:View,
  az aa 77 [.agg (aj g),encI l,encI (iV g)] H λr H'=>aN H' r 1 (aO (dV g (aA g) f l))/\cn H H' r:=by
 intro f
 induction f using Nat.strongRecOn with
 | _ f N =>
  intro l O z hu hb P
  refine az.of mixed zg ?_
  unfold aG at O
  simp(disch:=omega)only[↓wr,seval,wq,tI,encI,aj,encS]
  refine aW.up l.length (λi T H'=>∃u,T 7=u/\aN H' u 1 (aO (dV g (aA g) f (l.take i)))/\cn P H' u/\T 1=encI l/\T 2=encI (iV g)/\T 3=.aR (aj g) 0/\T 8=gi i) ⟨.emp 1,rfl,by rw[List.take_zero,pA];exact .nil,.emp,rfl,rfl,rfl,rfl⟩ ?_
  rintro i k T H hk ⟨u,t7,w,e,t1,t2,t3,t8⟩
  simp(disch:=omega)only[↓wr,seval,wq,qN,t1,t8,encI]
  apply ao.dec<;>intro Q
  .have b:l[i]?=some (l[i]'(by omega)):=aa8 (by omega)
   have a:l[i]'(by omega)∈l:=abe _
   have d:l.take (i+1)=l.take i++[l[i]'(by omega)]:=by rw[abr,b];rfl
   have c:=IC g f l (i+1)
   generalize l[i]'(by omega)=x at b a d
   obtain⟨⟨R,S⟩,A⟩:=z x a
   rw[d,gn] at c
   simp(disch:=omega)only[↓wr,seval,wq,t1,t8,encI,aba,b]
   apply ao.dec<;>intro B
   .rw[kd (show 0<=x from B)] at c
    simp only[abv,abl,abG] at c
    simp(disch:=omega)only[↓wr,seval,wq,t1,t7,t8,encI,aba,b]
    intro n h
    rw[bD]
    simp(disch:=omega)only[↓wr,seval,wq]
    refine dw (w.fresh h) (by simp[aK]) (by unfold aE;simp;omega) (by unfold aE;simp;omega) ?_
    intro U H1 C D
    simp(disch:=omega)only[↓wr,seval,wq,t8]
    refine aF hk (by omega) ⟨U,rfl,?_,(e.put h).step D,t1,t2,t3,rfl⟩
    rw[d,gn,kd (show 0<=x from B)]
    simpa using C
   .obtain⟨f,rfl⟩:∃V,f=V+1:=by
     cases f with
     | zero=>have:=CV hu x a;omega
     | succ f=>exact⟨f,rfl⟩
    obtain⟨E,J⟩:=hu x a (by omega)
    obtain⟨W,r,hi,hr,j,F,_⟩:=vw (f:=f) E (by push_cast at J;exact J)
    have o:=EV (g:=g) (m:=cr x) (by have:=A (by omega);unfold cr;omega)
    have p:=abi hr
    have X:W<g.rules.length:=(abf.1 hr).1
    have q:=L.aB r p
    rw[kZ (by omega),j] at c
    rw[hi] at o
    simp only[abv] at c
    simp(disch:=omega)only[↓wr,seval,wq,t1,t2,t3,t7,t8,encI,aj,aQ,encS,aba,b,o,hr]
    have s:=N f (by omega) r.right q.2.2.1 (λy K=>⟨q.2.2.2 y K,λz=>M.neg p K z⟩) F (by omega) H
    simp only[aj,encI,encS] at s
    refine ay.cF (s.mono ?_)
    rintro v H2 ⟨Y,t⟩
    obtain⟨rd,he⟩:=Y.elems
    simp(disch:=omega)only[↓wr,seval,wq,he]
    refine dw (w.TM t) (by simp[aK]) (by unfold aE;simp;omega) (by unfold aE;simp;omega) ?_
    intro Z H3 G I
    simp(disch:=omega)only[↓wr,seval,wq,t8]
    refine aF hk (by omega) ⟨Z,rfl,?_,(e.call t).step I,t1,t2,t3,rfl⟩
    rw[d,gn,kZ (by omega),j]
    simpa using G
  .simp(disch:=omega)only[↓wr,seval,wq,t7]
   rw[abo (by omega)] at w
   exact⟨w,e⟩
def Ey (x:List Int × Int):V:=.bc [encI x.1,gi x.2]
theorem k7 {h:Heap} {u:V} {x:List Int × Int} (hu:dF h u (encI x.1)):dF h (.bc [u,gi x.2]) (Ey x):=K7 hu (.val _)
theorem sT {g:ak} {l:List Int} (h:iH (aA g) l):DR (aA g) g.av.length l:=λx a b=>⟨h x a b,(lQ (h x a b)).2⟩
theorem RH {g:ak} {l:List Int} (h:iH (aA g) l) (a:(bS (aA g) l bp).1.rules<=300):((fw g (aA g) g.av.length l).length:Int)=(bS (aA g) l bp).1.rules:=by
 have:=(px g g.av.length l bp (sT h) ie).1
 simp only[bp] at this a ⊢
 omega
theorem Jr {g:ak} {l:List Int} (h:iH (aA g) l) (a:(bS (aA g) l bp).1.ax<=60):((dV g (aA g) g.av.length l).length:Int)=(bS (aA g) l bp).1.ax:=by
 have:=(px g g.av.length l bp (sT h) ie).2
 simp only[bp] at this a ⊢
 omega
def qj:SC:=
 ai [ai [ag [af 15 8,af 16 1,aM 17 16,aS 18 .lss 15 17],bO 18 (.exit 0)],.block 1 (ai [ai [ag [aV 21 4 2,af 22 1,af 23 8,aL 24 1 22 23,au 25 24,aU 26 74 [21,25],cO 27 26],aX 27 (ai [ag [bL 4 1,aT 5 1],.ret])],.region false [⟨none,[af 28 7,af 29 28]⟩,⟨(some (29,false)),[af 30 1,af 31 8,aL 32 1 30 31,au 33 32,aI 34 .lss 33 0,af 35 34]⟩,⟨(some (35,true)),[af 36 6,af 37 1,af 38 8,aL 39 1 37 38,au 40 39,((some 41),.op (.arith .sub (.val (.val (.int .i64 (-1)))) (.tmp 40))),aL 42 1 36 41,au 43 42,aI 44 .lss 43 0]⟩,⟨(some (29,false)),[dA 45 35 44]⟩,⟨none,[cJ 46 29 45,af 7 46]⟩]]),ag [af 19 8,aI 20 .add 19 1,af 8 20]]
def tE:SF:=⟨ai [ag [bZ 2 0,bL 4 1,aT 5 0],ai [ag [aV 10 4 2,aU 11 50 [10],cO 12 11],aX 12 (ai [ag [bL 4 1,aT 5 1],.ret])],ag [aV 13 4 2,aU 14 73 [13],af 6 14],ag [bb 7 false],ai [ag [aT 8 0],bR 0 qj],ai [ag [af 47 7],aX 47 (ai [ag [bL 4 1,aT 5 9],.ret])],ag [af 48 1,aV 49 4 2,aU 50 76 [49],aU 51 75 [48,50],((some 9),.op (.alloc [(.val (.int .i64 0)),(.val (.int .i64 0))])),cz 2 9 51],ai [.region false [⟨none,[aw 52 0 9,au 53 52,aI 54 .gtr 53 300,af 55 54]⟩,⟨(some (55,false)),[aw 56 1 9,au 57 56,aI 58 .gtr 57 60]⟩,⟨none,[cJ 59 55 58]⟩],aX 59 (ai [ag [bL 4 1,aT 5 13],.ret])],ag [aV 60 4 2,af 61 1,af 62 6,aU 63 77 [60,61,62],af 4 63,aT 5 0],.ret],
 [.tmp 4,.tmp 5],64⟩
theorem zf:aJ aa 34 [2]=some tE:=by kernel_rfl
def oz (P:List bC) (l:List Int):Bool:=l.any λx=>decide (x<0)&&decide ((bB P (cr x)).aB<0)
theorem Rc (P:List bC) (l:List Int) (s:bC):(bS P l s).2 = !oz P l:=by
 have h:=hZ P l s
 cases a:oz P l with
 | true =>
  simp only[oz,acE,abh,abn] at a
  obtain⟨x,b,c,hk⟩:=a
  cases d:(bS P l s).2 with
  | true=>have:=h.1 d x b c;unfold bK at this;omega
  | false=>rfl
 | false =>
  rw[Bool.not_false,h]
  intro x b c
  simp only[oz,List.any_eq_false,abh,abn] at a
  have:=a x b
  unfold bK;omega
theorem Jp (g:ak) (D:g.Ok) (l:List Int) (W:l.length<=1000000) (L:∀x∈l,bm x):bX aa 34 [.agg (aj g),encI l] (Ey (dh g l)):=by
 have A:aG l:=by unfold aG;omega
 refine bX.of (by
  intro v E;simp at E
  rcases E with rfl | rfl
  .exact bW _ (cy g)
  .exact bg l) ?_
 refine az.of mixed zf ?_
 simp(disch:=omega)only[↓wr,seval,wq,tE,aj,encS]
 refine ay.pure (jV g D) ?_
 have bad:∀p:Heap,(bu g&&l.all (dS g))=false->dF p (.bc [.emp 1,gi 1]) (Ey (dh g l)):=λp e=>by
  unfold dh;rw[aa9 (by rw[e];simp)];exact k7 (x:=([],1)) (.emp _)
 repeat' (first | ((first|apply ao.dec|apply ao.eq|apply ao.ne|apply ao.split)<;>intro)|(simp(disch:=omega)only[↓wr,seval,wq]))
 .rename_i hr
  have F:=bF hr
  have X:=F.ly
  have z2:=F.av
  have z3:=F.rules
  have M:=GR g D
  rw[abb hr] at M
  refine ay.pure M.pure ?_
  simp(disch:=omega)only[↓wr,seval,wq,encI]
  refine aW.up l.length (λi T H'=>(l.take i).all (dS g)=true/\T 1=encI l/\T 2=.aR (aj g) 0/\T 6=encI (iV g)/\T 7=gb (oz (aA g) (l.take i))/\T 8=gi i) ⟨rfl,rfl,rfl,rfl,rfl,rfl⟩ ?_
  rintro i k T H hk ⟨b,t1,t2,t6,t7,t8⟩
  simp(disch:=omega)only[↓wr,seval,wq,qj,t1,t8,encI]
  apply ao.dec<;>intro O
  .have a:l[i]?=some (l[i]'(by omega)):=aa8 (by omega)
   have d:l[i]'(by omega)∈l:=abe _
   have u:l.take (i+1)=l.take i++[l[i]'(by omega)]:=by rw[abr,a];rfl
   generalize l[i]'(by omega)=x at a d u
   have r:=L x d
   have G:=r
   unfold bm at G
   simp(disch:=omega)only[↓wr,seval,wq,t1,t2,t8,encI,aj,encS,aba,a]
   refine ay.pure (Sr g x r) ?_
   have f:oz (aA g) (l.take (i+1))=(oz (aA g) (l.take i)||(decide (x<0)&&decide ((bB (aA g) (cr x)).aB<0))):=by
    rw[u];simp[oz]
   have q:(l.take (i+1)).all (dS g)=dS g x:=by
    rw[u,adn,b];simp
   generalize oz (aA g) (l.take i)=P at t7 f
   simp(disch:=omega)only[↓wr,seval,wq]
   apply ao.split<;>intro s
   .have I:x<0->cr x<g.av.length:=λc=>by
     unfold dS at s
     rw[aa9 (by omega)] at s
     simp at s
     unfold cr;omega
    rw[s] at q
    simp(disch:=omega)only[↓wr,seval,wq,t7]
    cases P with
    | true =>
     simp(disch:=omega)only[↓wr,seval,wq,t8]
     exact aF hk (by omega) ⟨q,t1,t2,t6,by rw[f];rfl,rfl⟩
    | false =>
     rw[adb] at f
     simp(disch:=omega)only[↓wr,seval,wq,t1,t8,encI,aba,a]
     apply ao.dec<;>intro c
     .have J:=EV (I c)
      simp(disch:=omega)only[↓wr,seval,wq,t1,t6,t8,encI,aba,a,J]
      exact aF hk (by omega) ⟨q,t1,t2,t6,by rw[f,abJ c];rfl,rfl⟩
     .simp(disch:=omega)only[↓wr,seval,wq,t1,t2,t8,encI,aj,encS]
      exact aF hk (by omega) ⟨q,t1,t2,t6,by rw[f,decide_eq_false c];rfl,rfl⟩
   .simp(disch:=omega)only[↓wr,seval,wq,t7,t8]
    intro p _
    refine bad p ?_
    rw[Bool.and_eq_false_iff];right
    rw[ac9]
    exact⟨x,d,by simp[s]⟩
  .rw[abo (by omega)] at b t7
   have j:dh g l=_:=abb (by simp only[hr,b,Bool.and_self])
   have w:=Rc (aA g) l bp
   rw[w] at j
   cases N:oz (aA g) l with
   | true =>
    rw[N] at t7 j
    simp(disch:=omega)only[↓wr,seval,wq,t7]
    intro p _
    rw[j];exact k7 (x:=([],9)) (.emp _)
   | false =>
    rw[N] at t7 j w
    have y:=(hZ (aA g) l bp).1 w
    have z:∀x∈l,bm x/\(x<0->-1-x<g.av.length):=λx r=>⟨L x r,λc=>by
     have:=abC.1 b x r
     unfold dS at this
     rw[aa9 (by omega)] at this
     simpa using this⟩
    simp(disch:=omega)only[↓wr,seval,wq,t1,t2,t7,aj,encS,encI]
    refine ay.pure (VS g D hr).pure ?_
    simp(disch:=omega)only[↓wr,seval,wq,t7]
    have o:=O0 l (mY g) A (λm=>by rw[Ej];exact RK g m) (λx r=>⟨(z x r).1,λh=>by simp only[mY,abc,gP];exact(z x r).2 h⟩)
    have t:∀m,eX (bB (aA g) m):=λm=>j7 g _ m
    have K:=zF t l bp (0,0) ie y (λx _ _=>Ej g _) (S:=mY g) rfl
    have B:=oY t l bp ie
    have C:=Jr y
    rw[K] at o
    generalize Q:(bS (aA g) l bp).1=sp at j o B C
    unfold eX at B
    refine ay.pure o.pure ?_
    simp(disch:=omega)only[↓wr,seval,wq,fF,lT]
    intro n R
    try simp(disch:=omega)only[↓wr,seval,wq,t1,t2,t6,t7,t8,fF,lT]
    apply ao.dec<;>intro U
    .simp(disch:=omega)only[↓wr,seval,wq]
     rw[aa9 (by simp),abb (.inl (by omega))] at j
     intro p _
     rw[j];exact k7 (x:=([],13)) (.emp _)
    .simp(disch:=omega)only[↓wr,seval,wq]
     apply ao.dec<;>intro V
     .simp(disch:=omega)only[↓wr,seval,wq]
      rw[aa9 (by simp),abb (.inr (by omega))] at j
      intro p _
      rw[j];exact k7 (x:=([],13)) (.emp _)
     .rw[aa9 (by simp),aa9 (by omega)] at j
      simp(disch:=omega)only[↓wr,seval,wq,t1,t2,t6,t7,encI,aj,encS]
      have hw:=S5 g D F g.av.length l A z (sT y) (by have:=C (by omega);omega)
      simp only[aj,encI,encS] at hw
      refine ay.cF ((hw _).mono ?_)
      rintro v H1 ⟨E,_⟩
      simp(disch:=omega)only[↓wr,seval,wq]
      intro p s
      rw[j];exact k7 (x:=(_,0)) (jq (by rw[s];exact E))
 .intro p _
  refine bad p ?_
  simp_all
def cY {κ:Type} (kv:κ->V) (m:cH κ):List (V × V × Nat):=m.map λx=>(kv x.1,x.2.1,x.2.2)
structure Ep {κ:Type} [BEq κ] (P:Program) (kt:TypeId) (kv:κ->V):Prop where
 find:∀k e m,mR P kt (kv k) e (cY kv m)=some (gB k m)
 same:∀k,sameKey (kv k) (kv k)=true
def lg {κ:Type} (m:cH κ) (c:Nat):Prop:=(m.map (·.2.2)).Nodup/\∀x∈m,x.2.2<c
def lh {κ:Type} [BEq κ] (m:cH κ) (k:κ):Option Nat:=(m.find? λx=>k==x.1).map (·.2.2)
section
variable {κ:Type} [BEq κ] [LawfulBEq κ] {kv:κ->V}
theorem oO (k:κ):∀m:cH κ,match gB k m with
  | some i=>∃x,m[i]?=some x/\x.1=k/\getM m k=some x.2.1/\lh m k=some x.2.2/\(cY kv m)[i]?=some (kv k,x.2.1,x.2.2)/\∀v c,(cY kv m).set i (kv k,v,x.2.2)=cY kv (bP k v c m)/\lh (bP k v c m) k=some x.2.2/\(bP k v c m).map (·.2.2)=m.map (·.2.2)
  | none=>getM m k=none/\lh m k=none/\∀v c,cY kv m++[(kv k,v,c)]=cY kv (bP k v c m)/\lh (bP k v c m) k=some c/\(bP k v c m).map (·.2.2)=m.map (·.2.2)++[c]
 | []=>⟨rfl,rfl,λv c=>⟨rfl,by simp[bP,lh],rfl⟩⟩
 | x::r=>by
  have a:=oO k r
  simp only[gB]
  cases hk:k==x.1 with
  | true =>
   have b:x.1=k:=(eq_of_beq hk).symm
   exact⟨x,rfl,b,by simp[getM,hk],by simp[lh,hk],by simp[cY,b],λv c=>by simp[bP,hk,cY,lh]⟩
  | false =>
   cases hi:gB k r with
   | some i =>
    rw[hi] at a
    obtain⟨y,h1,d,e,f,g,h⟩:=a
    refine⟨y,by simpa using h1,d,by simpa [getM,hk] using e,by simpa [lh,hk] using f,by simpa [cY] using g,λv c=>?_⟩
    obtain⟨g1,g2,g3⟩:=h v c
    exact⟨by simp only[cY] at g1 ⊢;simp[bP,hk,g1],by simpa [bP,hk,lh] using g2,by simp[bP,hk,g3]⟩
   | none =>
    rw[hi] at a
    refine⟨by simpa [getM,hk] using a.1,by simpa [lh,hk] using a.2.1,λv c=>?_⟩
    obtain⟨g1,g2,g3⟩:=a.2.2 v c
    exact⟨by simp only[cY] at g1 ⊢;simp[bP,hk,g1],by simpa [bP,hk,lh] using g2,by simp[bP,hk,g3]⟩
theorem lg.put {m:cH κ} {c:Nat} (h:lg m c) (k:κ) (v:V):lg (bP k v c m) (c+1):=by
 have f:=oO (kv:=λ_=>V.any) k m
 cases i:gB k m with
 | some j =>
  rw[i] at f
  obtain⟨y,_,_,_,_,_,n⟩:=f
  have e:=(n v c).2.2
  refine⟨by rw[e];exact h.1,λx g=>?_⟩
  have:x.2.2∈m.map (·.2.2):=by rw[<-e];exact abt.2 ⟨x,g,rfl⟩
  obtain⟨y,d,o⟩:=abt.1 this
  have:=h.2 y d
  omega
 | none =>
  rw[i] at f
  have e:=(f.2.2 v c).2.2
  refine⟨?_,λx g=>?_⟩
  .rw[e,acH]
   refine⟨h.1,by simp,λa p b l=>?_⟩
   simp at l;subst l
   obtain⟨y,d,rfl⟩:=abt.1 p
   have:=h.2 y d
   omega
  .have:x.2.2∈m.map (·.2.2)++[c]:=by rw[<-e];exact abt.2 ⟨x,g,rfl⟩
   rcases abq.1 this with h1 | h1
   .obtain⟨y,d,o⟩:=abt.1 h1
    have:=h.2 y d
    omega
   .simp at h1;omega
theorem lg.Vz {m:cH κ} {c:Nat} (h:lg m c) {k:κ} {b:Nat} (d:lh m k=some b) (v:V) (f:Nat):lg (bP k v f m) c:=by
 have a:=oO (kv:=λ_=>V.any) k m
 cases g:gB k m with
 | some j =>
  rw[g] at a
  obtain⟨y,_,_,_,_,_,i⟩:=a
  have e:=(i v f).2.2
  refine⟨by rw[e];exact h.1,λx l=>?_⟩
  have:x.2.2∈m.map (·.2.2):=by rw[<-e];exact abt.2 ⟨x,l,rfl⟩
  obtain⟨y,n,o⟩:=abt.1 this
  have:=h.2 y n
  omega
 | none =>
  rw[g] at a
  rw[a.2.1] at d;simp at d
omit [BEq κ] [LawfulBEq κ] in
theorem find_born (b:Nat):∀(m:cH κ) (i:Nat) (x:κ × V × Nat),(m.map (·.2.2)).Nodup->m[i]?=some x->x.2.2=b->(cY kv m).findIdx? (λe=>e.2.2==b)=some i
 | [],i,x,_,h,_=>by simp at h
 | y::m,0,x,a,h,e=>by
  simp at h;subst h
  simp[cY,List.findIdx?_cons,e]
 | y::m,i+1,x,a,h,e=>by
  simp only[abE,acd] at a
  have f:x∈m:=abi h
  have c:¬ y.2.2=b:=λg=>a.1 (by rw[g,<-e];exact abt.2 ⟨x,f,rfl⟩)
  have d:=find_born b m i x a.2 h e
  simp only[cY] at d
  simp[cY,List.findIdx?_cons,c,d]
variable {P:Program} {T:Env} {H:View} {kt et t ty:TypeId}
theorem J0 {K:V->View->Prop} {w:dd (T,H,K)} {x i:Operand} {z:V} {id c:Nat} {m:cH κ} {k:κ} (hm:eR P t=some (kt,et)) (d:zeroV P et=some z) (hk:Ep P kt kv)
  (e:ev T x=.mp id) (hi:ev T i=kv k) (hH:H id=.map (cY kv m) c) (h:K ((getM m k).getD z) H):kb P (.lookup t x i false) ty T H K w:=by
 intro n _
 have f:=hk.find k (cY kv m).isEmpty m
 have a:=oO (kv:=kv) k m
 refine⟨(getM m k).getD z,.none,[id],?_,h⟩
 simp only[sI,cL,oper,fV,hm,d,e,hi,hH,f]
 cases b:gB k m with
 | some j =>
  rw[b] at a
  obtain⟨y,h1,o,g,p,l,_⟩:=a
  simp[l,g]
 | none =>
  rw[b] at a
  simp[a.1]
theorem JB {z:V} {id c:Nat} {m:cH κ} {k:κ} (hm:eR P t=some (kt,et)) (l:zeroV P et=some z) (hk:Ep P kt kv) (hH:H id=.map (cY kv m) c) (e:lg m c):
  ∃b f,fk P t (.mp id) (kv k) H=some (.bc [(getM m k).getD z,cP b],.fP id (.map (cY kv (bP k ((getM m k).getD z) c m)) f),[id])/\lg (bP k ((getM m k).getD z) c m) f/\lh (bP k ((getM m k).getD z) c m) k=some b:=by
 have d:=hk.find k false m
 have a:=oO (kv:=kv) k m
 cases g:gB k m with
 | some j =>
  rw[g] at a d
  obtain⟨y,h1,p,h,n,o,i⟩:=a
  refine⟨y.2.2,c,?_,?_,?_⟩
  .simp only[fk,hm,hH,d,o,hk.same k,if_true,h,abp]
   rw[(i y.2.1 c).1]
  .exact e.Vz n _ _
  .rw[h];exact(i _ c).2.1
 | none =>
  rw[g] at a d
  refine⟨c,c+1,?_,e.put k _,?_⟩
  .simp only[fk,hm,hH,d,l,a.1,Option.getD_none]
   rw[(a.2.2 z c).1]
  .rw[a.1];exact(a.2.2 _ c).2.1
theorem Rh {K:V->View->Prop} {w:dd (T,H,K)} {x i:Operand} {z:V} {id c:Nat} {m:cH κ} {k:κ} (hm:eR P t=some (kt,et)) (d:zeroV P et=some z) (hk:Ep P kt kv)
  (e:ev T x=.mp id) (hi:ev T i=kv k) (hH:H id=.map (cY kv m) c) (f:lg m c)
  (h:∀b a,lg (bP k ((getM m k).getD z) c m) a->lh (bP k ((getM m k).getD z) c m) k=some b->K (.bc [(getM m k).getD z,cP b]) (H.set id (.map (cY kv (bP k ((getM m k).getD z) c m)) a))):kb P (.mapEntry t x i) ty T H K w:=by
 intro n _
 obtain⟨b,a,h1,g,j⟩:=JB (k:=k) hm d hk hH f
 refine⟨.bc [(getM m k).getD z,cP b],.fP id (.map (cY kv (bP k ((getM m k).getD z) c m)) a),[id],?_,h b a g j⟩
 simp only[sI,cL,oper,e,hi]
 exact h1
theorem R8 {K:V->View->Prop} {w:dd (T,H,K)} {x s y:Operand} {id c b:Nat} {m:cH κ} {k:κ} {v:V} (i:ev T x=.mp id) (l:ev T s=cP b) (o:ev T y=v) (hH:H id=.map (cY kv m) c) (p:lg m c) (a:lh m k=some b)
  (h:∀c0,K .any (H.set id (.map (cY kv (bP k v c0 m)) c))):kb P (.entryStore t x s y) ty T H K w:=by
 intro n _
 have d:=oO (kv:=kv) k m
 cases g:gB k m with
 | none=>rw[g] at d;rw[d.2.1] at a;simp at a
 | some j =>
  rw[g] at d
  obtain⟨z,h1,B,C,f,q,r⟩:=d
  rw[a] at f
  have e:z.2.2=b:=by simp at f;exact f.symm
  have u:=find_born (kv:=kv) b m j z p.1 h1 e
  refine⟨.any,.fP id (.map (cY kv (bP k v c m)) c),[id],?_,h c⟩
  have A:asNat (cP b)=some b:=by simp[asNat,cP]
  simp only[sI,cL,oper,i,l,o,lN,A,hH,u,q]
  rw[(r v c).1]
theorem YB {z:V} {id c:Nat} {m:cH κ} {k:κ} (hm:eR P t=some (kt,et)) (f:zeroV P et=some z) (hk:Ep P kt kv) (hH:H id=.map (cY kv m) c) (i:lg m c):LH P t (.mp id) (kv k) H:=by
 refine⟨⟨_,_,hH⟩,λv obj rd he=>?_⟩
 obtain⟨b,l,h1,n,g⟩:=JB (k:=k) hm f hk hH i
 rw[he] at h1
 obtain⟨_,⟨_,rfl⟩,_⟩:=h1
 have key:∀(a:cH κ) (c2:Nat) (H':View),H' id=.map (cY kv a) c2->fV P t (.mp id) (kv k) false H'=some ((getM a k).getD z,.none,[id]):=by
  intro a c2 H' e
  have o:=hk.find k (cY kv a).isEmpty a
  have d:=oO (kv:=kv) k a
  simp only[fV,hm,f,e,o]
  cases h:gB k a with
  | some j =>
   rw[h] at d
   obtain⟨y,h1,n,g,q,p,_⟩:=d
   simp[p,g]
  | none =>
   rw[h] at d
   simp[d.1]
 rw[key (bP k ((getM m k).getD z) c m) l _ (by simp[View.set]),key m c H hH,lz]
 simp
end
def gf (x:Item):List V:=[cP x.aB,cP x.dot,cP x.ep]
def ud (x:Item):V:=.agg (gf x)
def na (x:Item):Value:=.agg #[.int .i64 x.aB,.int .i64 x.dot,.int .i64 x.ep]
theorem D2 (x:Item):dI (ud x)=some (na x):=rfl
theorem E1:∀m:cH Item,gJ (cY ud m)=some (m.map λx=>{ key:=na x.1,val:=.nilFunc,born:=x.2.2 })
 | []=>rfl
 | x::r=>by
  have:=E1 r
  simp only[cY] at this
  simp[cY,gJ,D2,this]
structure Y7 (P:Program) (kt:TypeId):Prop where
 ty:∃f0 f1 f2:Field,P.underlying kt=some (.struct #[f0,f1,f2])/\f0.name≠ "_" /\ f1.name≠ "_" /\ f2.name≠ "_" /\ P.underlying f0.type=some (.int .i64)/\P.underlying f1.type=some (.int .i64)/\P.underlying f2.type=some (.int .i64)/\f0.offset=0/\f1.offset=1/\f2.offset=2
 held:P.stoodInHeld kt=false
theorem vx {P:Program} {α:Type} (x:α):bo P (pure x:Sem α)=some x:=rfl
theorem YL {P:Program} {kt:TypeId} (h:Y7 P kt):Ep P kt ud where
 same:=λk=>by simp[sameKey,D2,na,Instr.sameBits]
 find:=by
  obtain⟨f0,f1,f2,hu,t,u,w,f,g,l,o0,n,o⟩:=h.ty
  have heq:∀a b:Item,bo P (Op.equal kt (na a) (na b))=some (a==b):=by
   intro a b
   have y:ic P 9998 #[.int .i64 (a.aB:Int),.int .i64 (a.dot:Int),.int .i64 (a.ep:Int)] #[.int .i64 (b.aB:Int),.int .i64 (b.dot:Int),.int .i64 (b.ep:Int)] [f0,f1,f2] (((a.aB:Int)==b.aB)&&(((a.dot:Int)==b.dot)&&(((a.ep:Int)==b.ep)&&true))):=
    .int f0 _ _ .i64 _ _ t f (by rw[o0];rfl) (by rw[o0];rfl) (.int f1 _ _ .i64 _ _ u g (by rw[n];rfl) (by rw[n];rfl) (.int f2 _ _ .i64 _ _ w l (by rw[o];rfl) (by rw[o];rfl) .nil))
   rw[na,na,vy hu h.held y]
   congr 1
   rw[abW]
   simp only[abh,ab9,Int.natCast_inj,and_true]
   cases a;cases b;simp
  have c:∀(k:Item) (m:cH Item) (i:Nat),bo P (Instr.findAsking kt (na k) (m.map λx=>{ key:=na x.1,val:=.nilFunc,born:=x.2.2 }) i)=some ((gB k m).map λj=>(i+j,.nilFunc)):=by
   intro k m
   induction m with
   | nil=>intro i;rfl
   | cons x r z =>
    intro i
    simp only[abE,Instr.findAsking,aZ,heq,abD,gB]
    cases hk:k==x.1 with
    | true=>simp[vx]
    | false =>
     simp only[abI,if_false,z (i+1),Option.map_map]
     congr 2
     funext j
     simp only[Function.comp]
     congr 1
     omega
  have hint:∀(e:Bool) (p:TypeId) (v:Value),P.underlying p=some (.int .i64)->bo P (Instr.checkKey e 9999 p v)=some ():=λe p v q=>zK q trivial e 9998 v
  have d:∀(k:Item) (e:Bool),bo P (Instr.checkKey e 10000 kt (na k))=some ():=by
   intro k e
   unfold Instr.checkKey na
   rw[aZ,dH hu,abD]
   have A:=ey (P:=P) f (.inr ⟨_,rfl⟩) #[.int .i64 (k.aB:Int),.int .i64 (k.dot:Int),.int .i64 (k.ep:Int)] f0.offset (v:=.int .i64 k.aB) (by rw[o0];rfl)
   have B:=ey (P:=P) g (.inr ⟨_,rfl⟩) #[.int .i64 (k.aB:Int),.int .i64 (k.dot:Int),.int .i64 (k.ep:Int)] f1.offset (v:=.int .i64 k.dot) (by rw[n];rfl)
   have C:=ey (P:=P) l (.inr ⟨_,rfl⟩) #[.int .i64 (k.aB:Int),.int .i64 (k.dot:Int),.int .i64 (k.ep:Int)] f2.offset (v:=.int .i64 k.ep) (by rw[o];rfl)
   simp only[<-Array.forIn_toList,List.forIn_cons,List.forIn_nil,abb t,abb u,abb w,aZ,A,B,C,hint e _ _ f,hint e _ _ g,hint e _ _ l,abD,vx]
  intro k e m
  have s:bo P (underlying kt)=some _:=dH hu
  simp only[mR,D2,E1,aZ,d,abD]
  have:bo P (Instr.findKey kt (na k) (m.map λx=>{ key:=na x.1,val:=.nilFunc,born:=x.2.2 }))=some ((gB k m).map λj=>(0+j,.nilFunc)):=by
   unfold Instr.findKey
   rw[aZ,s,abD]
   cases m with
   | nil=>rfl
   | cons x r=>exact c k (x::r) 0
  rw[this]
  cases gB k m with
  | none=>rfl
  | some j=>simp
def RE (m:cH Item) (s:List Item) (B:Nat):Prop:=∀x,(x∈s->∃k:Nat,getM m x=some (cP k)/\1<=k/\k<=B)/\(x ∉ s->getM m x=none)
structure nT (H:View) (c sid mid:Nat) (sv:Nat->V) (mi:Nat->Nat) (mm:Nat->cH Item) (cl:Nat->Nat) (g:ak) (p:List Int) (nu:V) (S S1:Nat->List Item) (B n:Nat) (K:List (Nat × ct)):Prop where
 box:H c=.arr 8 [[.aY (g.ax.map df),encS g.av,.aY (g.rules.map aQ),gi g.start,encI p,nu,.sl sid 0 n 1,.sl mid 0 n 1]]
 jy:H sid=.arr 1 ((List.range n).map λj=>[sv j])
 seen:H mid=.arr 1 ((List.range n).map λj=>[.mp (mi j)])
 set:∀j,j<n->aN H (sv j) 3 ((S j).map gf)
 map:∀j,j<n->H (mi j)=.map (cY ud (mm j)) (cl j)/\lg (mm j) (cl j)/\RE (mm j) (S1 j) B
 ne:sid≠mid
 Cn:∀i j o,i<n->j<n->owner (sv i)=some o->owner (sv j)=some o->i=j
 Ha:∀i j,i<n->j<n->mi i=mi j->i=j
 off:∀q∈K,H q.1=q.2/\q.2≠.dead/\q.1≠sid/\(∀j,j<n->q.1≠mi j)/\∀j,j<n->owner (sv j)≠some q.1
def Ch (H:View) (c:Nat) (g:ak) (p:List Int) (nu:V) (S:Nat->List Item) (B n:Nat) (K:List (Nat × ct)):Prop:=∃sid mid sv mi mm cl,nT H c sid mid sv mi mm cl g p nu S S B n K
def kK (S:Nat->List Item) (a:Nat) (x:Item):Nat->List Item:=λb=>if b=a then (if x∈S a then S a else S a++[x]) else S b
theorem Ch.more {H:View} {c:Nat} {g:ak} {p:List Int} {e:V} {S:Nat->List Item} {B B' n:Nat} {K:List (Nat × ct)} (h:Ch H c g p e S B n K) (o:B<=B'):Ch H c g p e S B' n K:=by
 obtain⟨b,d,f,i,mm,cl,h⟩:=h
 refine⟨b,d,f,i,mm,cl,h.box,h.jy,h.seen,h.set,λj a=>⟨(h.map j a).1,(h.map j a).2.1,λx=>⟨λl=>?_,((h.map j a).2.2 x).2⟩⟩,h.ne,h.Cn,h.Ha,h.off⟩
 obtain⟨k,h1,m,q⟩:=((h.map j a).2.2 x).1 l
 exact⟨k,h1,m,by omega⟩
theorem Ch.drop {H:View} {c:Nat} {g:ak} {p:List Int} {d:V} {S:Nat->List Item} {B n:Nat} {q:Nat × ct} {K:List (Nat × ct)} (h:Ch H c g p d S B n (q::K)):Ch H c g p d S B n K:=by
 obtain⟨a,b,e,f,mm,cl,h⟩:=h
 exact⟨a,b,e,f,mm,cl,h.box,h.jy,h.seen,h.set,h.map,h.ne,h.Cn,h.Ha,λq i=>h.off q (by simp[i])⟩
theorem nT.new {H:View} {c f i:Nat} {m:Nat->V} {r:Nat->Nat} {mm:Nat->cH Item} {cl:Nat->Nat} {g:ak} {p:List Int} {s:V} {S t:Nat->List Item} {B n:Nat} {K:List (Nat × ct)} (h:nT H c f i m r mm cl g p s S t B n K)
  {b:Nat} {o:ct} (k:H b=.dead) (v:o≠.dead):nT (H.set b o) c f i m r mm cl g p s S t B n ((b,o)::K):=by
 have keep:∀id,H id≠.dead->(H.set b o) id=H id:=λid d=>by
  have e:id≠b:=by rintro rfl;exact d k
  simp[View.set,e]
 have live:∀ {id},H id≠.dead->b≠id:=λd e=>d (e▸k)
 refine⟨?_,?_,?_,λj a=>?_,λj a=>?_,h.ne,h.Cn,h.Ha,λq l=>?_⟩
 .rw[keep _ (by rw[h.box];simp)];exact h.box
 .rw[keep _ (by rw[h.jy];simp)];exact h.jy
 .rw[keep _ (by rw[h.seen];simp)];exact h.seen
 .exact(h.set j a).fresh k
 .rw[keep _ (by rw[(h.map j a).1];simp)];exact h.map j a
 .rcases abw.1 l with rfl | l
  .refine⟨by simp[View.set],v,live (by rw[h.jy];simp),λj a=>live (by rw[(h.map j a).1];simp),λj a=>?_⟩
   have:=(h.set j a).ne k
   exact this
  .obtain⟨h1,u,w⟩:=h.off q l
   exact⟨by rw[keep _ (by rw[h1];exact u)];exact h1,u,w⟩
theorem Ch.new {H:View} {c:Nat} {g:ak} {p:List Int} {e:V} {S:Nat->List Item} {B n b:Nat} {o:ct} {K:List (Nat × ct)} (h:Ch H c g p e S B n K) (f:H b=.dead) (i:o≠.dead):Ch (H.set b o) c g p e S B n ((b,o)::K):=by
 obtain⟨a,d,j,k,mm,cl,h⟩:=h
 exact⟨a,d,j,k,mm,cl,h.new f i⟩
theorem Ch.kept {H:View} {c:Nat} {g:ak} {p:List Int} {a:V} {S:Nat->List Item} {B n:Nat} {K:List (Nat × ct)} (h:Ch H c g p a S B n K):∀q∈K,H q.1=q.2:=by
 obtain⟨b,d,f,i,mm,cl,h⟩:=h
 exact λq e=>(h.off q e).1
def tC:SF:=⟨ai [ag [bZ 5 2],.yj (188,12,13) [] [⟨none,[af 6 0,fU 7 6,aw 8 7 7,au 9 8,af 10 1,aL 11 1 9 10,au 12 11,aV 13 3 5,((some 14),.op (.old (.lookup 188 (.tmp 12) (.tmp 13) false) 3)),aI 15 .add 14 1,((some 16),.op (.old (.mapEntry 188 (.tmp 12) (.tmp 13)) 0)),c7 17 1 16,(none,.op (.old (.entryStore 188 (.tmp 12) (.tmp 17) (.tmp 15)) 0))]⟩],ag [af 18 0,fU 19 18,aw 20 7 19,au 21 20,af 22 1,aL 23 1 21 22,au 24 23,aV 25 3 5,((some 26),.op (.old (.lookup 188 (.tmp 24) (.tmp 25) false) 3)),aI 27 .eql 26 1],aX 27 (.vq [(30,39)] [⟨none,[af 28 0,fU 29 28,aw 30 6 29,au 31 30,af 32 1,af 33 0,fU 34 33,aw 35 6 34,au 36 35,af 37 1,aL 38 1 36 37,au 39 38,aV 40 3 5,((some 41),.op (.bH 1 3 [(.val (.int .i64 0)),(.val (.int .i64 0)),(.val (.int .i64 0))] [(0,(.tmp 40))])),eZ 42 3 24 39 41,aL 43 1 31 32,cz 1 43 42]⟩])],
 [],44⟩
theorem yQ:aJ aa 176 [5,100000]=some tC:=by kernel_rfl
theorem Vk:Y7 aa 191:=
 ⟨⟨⟨ "rule",3,0,false,"","gerund/oracle",0⟩,⟨ "dot",3,1,false,"","gerund/oracle",8⟩,⟨ "from",3,2,false,"","gerund/oracle",16⟩,by kernel_rfl,by decide,by decide,by decide,Tryz.underlying3,Tryz.underlying3,Tryz.underlying3,rfl,rfl,rfl⟩,by kernel_rfl⟩
theorem XA {m:cH Item} {s:List Item} {B c c0:Nat} {x:Item} (h:RE m s B) (k:Nat) (hk:(x∈s/\getM m x=some (cP k))∨(x ∉ s/\k=0)) (i:k<=B) (z:V):RE (bP x (cP (k+1:Nat)) c0 (bP x z c m)) (if x∈s then s else s++[x]) (B+1):=by
 intro y
 rw[lz,lz]
 by_cases e:y=x
 .subst e
  refine⟨λ_=>⟨k+1,by simp,by omega,by omega⟩,λd=>?_⟩
  exfalso
  by_cases a:y∈s
  .rw[abb a] at d;exact d a
  .rw[aa9 a] at d;exact d (by simp)
 .have e':(y==x)=false:=by simpa using e
  simp only[e',abI,if_false]
  have b:(y∈if x∈s then s else s++[x])↔y∈s:=by
   split
   .exact Iff.rfl
   .simp[e]
  rw[b]
  refine⟨λa=>?_,(h y).2⟩
  obtain⟨f,h1,g,j⟩:=(h y).1 a
  exact⟨f,h1,g,by omega⟩
theorem nT.wrote {H:View} {c f i:Nat} {v:Nat->V} {d:Nat->Nat} {mm:Nat->cH Item} {cl:Nat->Nat} {g:ak} {p:List Int} {w:V} {S r:Nat->List Item} {B n:Nat} {K:List (Nat × ct)} (h:nT H c f i v d mm cl g p w S r B n K)
  {a:Nat} (s:a<n) {x:Item} {l:cH Item} {o:Nat} (D:lg l o) (E:RE l (kK r a x a) (B+1)):
  nT (H.set (d a) (.map (cY ud l) o)) c f i v d (λj=>if j=a then l else mm j) (λj=>if j=a then o else cl j) g p w S (kK r a x) (B+1) n K:=by
 obtain⟨t,F,G⟩:=h.map a s
 have keep:∀id z es,H id=.arr z es->(H.set (d a) (.map (cY ud l) o)) id=H id:=λid z es b=>by
  have e:id≠d a:=by rintro rfl;rw[t] at b;simp at b
  simp[View.set,e]
 refine⟨?_,?_,?_,λj m=>?_,λj m=>?_,h.ne,h.Cn,h.Ha,λq I=>?_⟩
 .rw[keep _ _ _ h.box];exact h.box
 .rw[keep _ _ _ h.jy];exact h.jy
 .rw[keep _ _ _ h.seen];exact h.seen
 .exact(h.set j m).keep λid b=>keep _ _ _ ((h.set j m).live b).1
 .by_cases e:j=a
  .subst e
   simp only[if_true]
   exact⟨by simp[View.set],D,E⟩
  .have J:d j≠d a:=λq=>e (h.Ha j a m s q)
   simp only[aa9 e]
   obtain⟨g1,g2,g3⟩:=h.map j m
   refine⟨by simp[View.set,J,g1],g2,?_⟩
   simp only[kK,aa9 e]
   intro y
   refine⟨λL=>?_,(g3 y).2⟩
   obtain⟨k,h1,u,A⟩:=(g3 y).1 L
   exact⟨k,h1,u,by omega⟩
 .obtain⟨h1,u,A,C,M⟩:=h.off q I
  exact⟨by simp[View.set,C a s,h1],u,A,C,M⟩
theorem nT.Yx {H H':View} {c d s:Nat} {m:Nat->V} {z:Nat->Nat} {mm:Nat->cH Item} {cl:Nat->Nat} {g:ak} {p:List Int} {D:V} {S E:Nat->List Item} {B n:Nat} {K:List (Nat × ct)} (h:nT H c d s m z mm cl g p D S E B n K)
  {a:Nat} (v:a<n) {x:Item} (F:¬ x∈S a) {u':V} (G:aN H' u' 3 ((S a).map gf++[gf x])) (I:Left H H' (m a) u'):
  nT (H'.set d (.arr 1 (((List.range n).map λj=>[m j]).set a [u']))) c d s (λj=>if j=a then u' else m j) z mm cl g p D (kK S a x) E B n K:=by
 have own:∀ {id},owner (m a)=some id->H id=.arr 3 ((S a).map gf):=λr=>((h.set a v).live r).1
 have J:owner (m a)≠some d:=λe=>by
  have:=own e
  rw[h.jy] at this;simp at this
 have keep:∀id,H id≠.dead->owner (m a)≠some id->H' id=H id/\owner u'≠some id:=I
 have L:=keep d (by rw[h.jy];simp) J
 have b:∀id,H id≠.dead->owner (m a)≠some id->id≠d->(H'.set d (.arr 1 (((List.range n).map λj=>[m j]).set a [u']))) id=H id:=λid h1 f w=>by
  simp only[View.set,aa9 w];exact(keep id h1 f).1
 have t:∀ {id o},H id=o->o≠.arr 3 ((S a).map gf)->owner (m a)≠some id:=λh1 f e=>f (by rw[<-h1];exact own e)
 refine⟨?_,?_,?_,λj l=>?_,λj l=>?_,h.ne,λi j o hi l h1 f=>?_,h.Ha,λq M=>?_⟩
 .rw[b c (by rw[h.box];simp) (t h.box (by simp)) (by rintro rfl;have:=h.box;rw[h.jy] at this;simp at this)];exact h.box
 .simp only[View.set,if_true]
  congr 1
  rw[HE]
  apply aca
  intro j _
  split<;>rfl
 .rw[b s (by rw[h.seen];simp) (t h.seen (by simp)) h.ne.symm];exact h.seen
 .by_cases e:j=a
  .subst e
   simp only[if_true,kK,aa9 F,abA,abE,acJ]
   exact G.other L.2
  .simp only[aa9 e,kK]
   refine(h.set j l).keep λid r=>?_
   have k:=((h.set j l).live r).1
   refine b id (by rw[k];simp) (λu=>e (h.Cn j a id l v r u)) ?_
   rintro rfl;rw[h.jy] at k;simp at k
 .obtain⟨g1,g2,g3⟩:=h.map j l
  refine⟨?_,g2,g3⟩
  rw[b (z j) (by rw[g1];simp) (t g1 (by simp)) (by intro e;rw[e,h.jy] at g1;simp at g1)];exact g1
 .by_cases y:i=a
  .by_cases u:j=a
   .omega
   .simp only[abb y,aa9 u] at h1 f
    exfalso
    have k:=((h.set j l).live f).1
    exact(keep o (by rw[k];simp) (λA=>u (h.Cn j a o l v f A))).2 h1
  .by_cases u:j=a
   .simp only[aa9 y,abb u] at h1 f
    exfalso
    have k:=((h.set i hi).live h1).1
    exact(keep o (by rw[k];simp) (λA=>y (h.Cn i a o hi v h1 A))).2 f
   .simp only[aa9 y,aa9 u] at h1 f
    exact h.Cn i j o hi l h1 f
 .obtain⟨h1,f,w,N,C⟩:=h.off q M
  refine⟨?_,f,w,N,λj l=>?_⟩
  .rw[b q.1 (by rw[h1];exact f) (C a v) w];exact h1
  .by_cases e:j=a
   .simp only[abb e];exact(keep q.1 (by rw[h1];exact f) (C a v)).2
   .simp only[aa9 e];exact C j l
theorem FJ (c:Nat) (g:ak) (p:List Int) (Y:V) (S:Nat->List Item) (B n a:Nat) (x:Item) (K:List (Nat × ct)) (H:View) (hC:Ch H c g p Y S B n K) (j:a<n) (hn:n<1000) (hB:B<1000000000000) (hl:(S a).length<1000000)
  (hx:x.aB<1000/\x.dot<1000/\x.ep<1000):az aa 176 [.ptr c 0 0,cP a,.agg (gf x)] H λ_ H'=>Ch H' c g p Y (kK S a x) (B+1) n K:=by
 obtain⟨C,ab,Z,A,mm,cl,h⟩:=hC
 obtain⟨r,D,t⟩:=h.map a j
 have s:eR aa 188=some (191,3):=by kernel_rfl
 have L:zeroV aa 3=some (gi 0):=by kernel_rfl
 have i:=YL Vk
 have M:∃k:Nat,(getM (mm a) x).getD (gi 0)=cP k/\k<=B/\((x∈S a/\getM (mm a) x=some (cP k)/\1<=k)∨(¬ x∈S a/\k=0)):=by
  by_cases d:x∈S a
  .obtain⟨k,h1,l,f⟩:=(t x).1 d
   exact⟨k,by rw[h1];rfl,f,.inl ⟨d,h1,l⟩⟩
  .exact⟨0,by rw[(t x).2 d];rfl,by omega,.inr ⟨d,rfl⟩⟩
 obtain⟨k,E,N,u⟩:=M
 refine az.of mixed yQ ?_
 simp(disch:=omega)only[↓wr,seval,wq,tC,h.box,h.seen,gK j,gf]
 refine⟨j,by simp;omega,?_⟩
 refine J0 (kv:=ud) (kt:=191) (et:=3) (z:=gi 0) s L i (id:=A a) (c:=cl a) (m:=mm a) (k:=x) (by simp(disch:=omega)only[↓wr,seval]) (by simp(disch:=omega)only[↓wr,seval];rfl) r ?_
 rw[E]
 simp(disch:=omega)only[↓wr,seval,wq]
 refine Rh (kv:=ud) (kt:=191) (et:=3) (z:=gi 0) s L i (id:=A a) (c:=cl a) (m:=mm a) (k:=x) (by simp(disch:=omega)only[↓wr,seval]) (by simp(disch:=omega)only[↓wr,seval];rfl) r D λb O P w=>?_
 rw[E] at P w ⊢
 simp(disch:=omega)only[↓wr,seval,wq]
 have ek:V.val (.int .i64 ((k:Int)+1))=cP (k+1:Nat):=by simp[cP]
 refine R8 (kv:=ud) (id:=A a) (c:=O) (b:=b) (m:=bP x (cP k) (cl a) (mm a)) (k:=x) (v:=cP (k+1:Nat)) (by simp(disch:=omega)only[↓wr,seval]) (by simp(disch:=omega)only[↓wr,seval,wq]) (by simp(disch:=omega)only[↓wr,seval,wq];exact ek) (by simp[View.set,cP]) P w λc0=>?_
 simp(disch:=omega)only[↓wr,seval,wq]
 refine⟨YB (kv:=ud) s L i r D,?_⟩
 rw[set_set]
 have F:RE (bP x (cP (k+1:Nat)) c0 (bP x (cP k) (cl a) (mm a))) (kK S a x a) (B+1):=by
  simp only[kK,if_true]
  exact XA t k (u.elim (λh=>.inl ⟨h.1,h.2.1⟩) .inr) N _
 have l:=h.wrote j (P.Vz w (cP (k+1:Nat)) c0) F
 have q:getM (bP x (cP (k+1:Nat)) c0 (bP x (cP k) (cl a) (mm a))) x=some (cP (k+1:Nat)):=by rw[lz];simp
 simp only[cP] at l q ⊢
 generalize bP x (.val (.int .i64 ((k+1:Nat):Int))) c0 (bP x (.val (.int .i64 (k:Int))) (cl a) (mm a))=m2 at l q ⊢
 generalize View.set H (A a) (.map (cY ud m2) O)=H2 at l ⊢
 have Q:c≠A a:=λe=>by
  have:=h.box
  rw[e,r] at this;simp at this
 simp only[aa9 Q,h.box]
 simp(disch:=omega)only[↓wr,seval,wq,l.seen,gK j]
 refine⟨j,by simp;omega,?_⟩
 have G:=(l.map a j).1
 simp only[if_true] at G
 refine J0 (kv:=ud) (kt:=191) (et:=3) (z:=gi 0) s L i (id:=A a) (c:=O) (m:=m2) (k:=x) (by simp(disch:=omega)only[↓wr,seval]) (by simp(disch:=omega)only[↓wr,seval];rfl) G ?_
 rw[q]
 simp(disch:=omega)only[↓wr,seval,wq,abp]
 apply ao.eq<;>intro e
 .have d:¬ x∈S a:=by
   rcases u with f | f
   .omega
   .exact f.1
  simp(disch:=omega)only[↓wr,seval,wq,l.box,l.jy,gK j]
  refine⟨j,by simp;omega,λb1 R=>?_⟩
  rw[bD]
  have f:=l.new R (o:=.arr 3 [gf x]) (by simp)
  simp only[gf,cP] at f
  have T:=f.off _ (acg ..)
  generalize View.set H2 b1 _=H3 at f T ⊢
  have U:=f.set a j
  have W:jE (.ptr c 0 6) (Z a):=by
   rcases U with ⟨_,k,e⟩ | ⟨m,e,hm⟩
   .rw[e];trivial
   .rw[e]
    show c≠m
    rintro rfl
    have:=f.box
    rw[hm] at this;simp at this
  simp(disch:=omega)only[↓wr,seval,wq]
  refine kX U (by simp) (by simp[aK]) (by simp[aE];omega) (by simp[aE];omega) λu' H' y I=>?_
  have X:owner (Z a)≠some C:=λe=>by
   have:=(U.live e).1
   rw[f.jy] at this;simp at this
  have J:=(I C (by rw[f.jy];simp) X).1
  rw[f.jy] at J
  simp(disch:=omega)only[↓wr,seval,wq,J,y.cells,y.eL,gK j]
  refine⟨j,by simp;omega,W,?_⟩
  have h4:=f.Yx j d (u':=u') y I
  exact Ch.drop ⟨_,_,_,_,_,_,h4⟩
 .have d:x∈S a:=by
   rcases u with f | f
   .exact f.1
   .omega
  simp(disch:=omega)only[↓wr,seval,wq]
  have hS:kK S a x=S:=by
   funext b
   simp only[kK,abb d]
   split
   .rename_i e;rw[e]
   .rfl
  rw[hS] at l ⊢
  exact⟨_,_,_,_,_,_,l⟩
inductive Pu (g:ak) (p:List Int):Int->Nat->Prop
 | start:Pu g p g.start 0
 | step (R:bf) (l1 l2:List Int) (n:Int) (f a:Nat):R∈g.rules->R.right=l1++(-1-n)::l2->Pu g p R.left f->Sp g p l1 f a->Pu g p n a
def PD (g:ak) (p:List Int) (x:Item):Prop:=∃R,g.rules[x.aB]?=some R/\Pu g p R.left x.ep
theorem take_at {l:List Int} {d:Nat} {s:Int} (h:l[d]?=some s):l=l.take d++s::l.drop (d+1):=by
 have h1:=(abf.1 h)
 obtain⟨a,he⟩:=h1
 rw[<-he]
 simp
theorem PD.ask {g:ak} {p:List Int} {a:Nat} {x:Item} (h:PD g p x) (d:Sound g p a x) {R:bf} (c:g.rules[x.aB]?=some R) {s:Int} (e:R.right[x.dot]?=some s):Pu g p (-1-s) a:=by
 obtain⟨j,h1,f⟩:=h
 obtain⟨k,b,_,_,i⟩:=d
 rw[c] at h1 b;simp at h1 b;subst h1;subst b
 refine .step R (R.right.take x.dot) (R.right.drop (x.dot+1)) (-1-s) x.ep a (abi c) ?_ f i
 rw[show -1-(-1-s)=s by omega]
 exact take_at e
end Gv
